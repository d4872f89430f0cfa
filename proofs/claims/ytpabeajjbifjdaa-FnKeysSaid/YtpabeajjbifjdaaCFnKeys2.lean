/- Part 2 of the proof of FnKeys: what the functions on its road do, and the plain laws. -/
import Derived.Test.YtpabeajjbifjdaaCFnKeys1
import Derived.SizedLaws
import Derived.ChangeSlices
import Derived.Test.YtpabeajjbifjdaaProg
import Derived.Below
import Derived.Deep.Draws
import Derived.Deep.AppendLies
import Derived.Maps.AppendAt
import Derived.OwnWalk
import Derived.Laws.BytesArg
import Derived.Laws.MakeOwn
import Derived.Laws.OwnMore
import Derived.Deep.OwnRows
import Derived.Tactics
import Derived.Lib.ConvBytes
import Derived.Laws.Slices
import Derived.WalkKit
import Derived.KernelRfl
import Derived.RowKit3
import Derived.Deep.LoopGhost
import Derived.Deep.QuietTactic
import Derived.BigQuiet
import Derived.WideLaws
import Derived.Deep.DeepCutAuto
import Derived.Deep.CutBlock
import Derived.Deep.RegionHeld3
import Derived.Laws.Rows
import Derived.Lib.AppendStr
import Derived.ArgAppend
import Derived.Laws.IdiomCopy
import Derived.OrdersHeld
import Derived.Laws.BitsLemmas
import Derived.RowKit
import Derived.WalkSpells
namespace Go.Proofs.Ytpabeajjbifjdaa.G
open Go.RowKit Go.Proofs.YtpabeajjbifjdaaW.PrintWords Go.Proofs.YtpabeajjbifjdaaW.PrintLast Go.Proofs.YtpabeajjbifjdaaW.PrintMore
attribute [local go_sem] max2_int min2_int max_two min_two max_three min_three max_four min_four   -- for this text's walks alone
set_option linter.unusedVariables false
set_option linter.unusedSimpArgs false
def errW : Option Int → Value
  | none => .nilIface
  | some c => .iface 0 (.int .i64 c)
theorem errW_none : errW none = .nilIface:=rfl
theorem errW_some (c : Int) : errW (some c) = .iface 0 (.int .i64 c):=rfl
theorem info2 : (Try.prog.info? 2).map (fun i => (i.zero,i.size,i.bytes)) = some (some (.int .i64 0),1,8):=by kernel_rfl
theorem info4 : (Try.prog.info? 4).map (fun i => (i.zero,i.size,i.bytes)) = some (some (.bool false),1,1):=by kernel_rfl
theorem info36 : (Try.prog.info? 36).map (fun i => (i.zero,i.size,i.bytes)) = some (some (.agg #[(.int .i64 0),(.int .i64 0),(.int .i64 0),(.int .i64 0)]),4,32):=by kernel_rfl
structure S36 where
  f0 : Int
  f1 : Int
  f2 : Int
  f3 : Int
def z36 : S36:=⟨(0 : Int),(0 : Int),(0 : Int),(0 : Int)⟩
def k36 : Kd S36:=Kd.iso (Kd.pair (Kd.int .i64) (Kd.pair (Kd.int .i64) (Kd.pair (Kd.int .i64) (Kd.int .i64)))) (fun x : S36 => (x.f0,x.f1,x.f2,x.f3))
theorem k36_open {w : World} {x : S36} {cs : List Value} (h : k36.K w x cs) : cs = [.int .i64 x.f0,.int .i64 x.f1,.int .i64 x.f2,.int .i64 x.f3]:=by
  obtain ⟨_,_,rfl,rfl,⟨_,_,rfl,rfl,⟨_,_,rfl,rfl,rfl⟩⟩⟩:=h
  exact rfl
theorem k36_openM {w : World} {base : Nat} {ok : Nat → Prop} {x : S36} {cs : List Value} (h : k36.M w base ok x cs) : cs = [.int .i64 x.f0,.int .i64 x.f1,.int .i64 x.f2,.int .i64 x.f3]:=by
  obtain ⟨_,_,rfl,rfl,⟨_,_,rfl,rfl,⟨_,_,rfl,rfl,rfl⟩⟩⟩:=h
  exact rfl
theorem k36_mkM (w : World) (base : Nat) (ok : Nat → Prop) (x : S36)  : k36.M w base ok x [.int .i64 x.f0,.int .i64 x.f1,.int .i64 x.f2,.int .i64 x.f3]:=⟨[.int .i64 x.f0],[.int .i64 x.f1,.int .i64 x.f2,.int .i64 x.f3],rfl,rfl,⟨[.int .i64 x.f1],[.int .i64 x.f2,.int .i64 x.f3],rfl,rfl,⟨[.int .i64 x.f2],[.int .i64 x.f3],rfl,rfl,rfl⟩⟩⟩
def rd_T36 (xs : List S36) (i : Int) : S36:=xs.getD i.toNat z36
theorem at_T36 {w : World} {A : Option Addr} {n : Nat} {xs : List S36} (h : Kd.C k36 w A n xs) (i : Int) (h0 : 0 ≤ i) (h1 : i < n) : ∃ ad ,A = some ad ∧ w.cell? (ad.add (i.toNat * 4)) = some (.int .i64 (rd_T36 xs i).f0) ∧ w.cell? ⟨(ad.add (i.toNat * 4)).block,(ad.add (i.toNat * 4)).off + 1,none⟩ = some (.int .i64 (rd_T36 xs i).f1) ∧ w.cell? ⟨(ad.add (i.toNat * 4)).block,(ad.add (i.toNat * 4)).off + 2,none⟩ = some (.int .i64 (rd_T36 xs i).f2) ∧ w.cell? ⟨(ad.add (i.toNat * 4)).block,(ad.add (i.toNat * 4)).off + 3,none⟩ = some (.int .i64 (rd_T36 xs i).f3):=by
  obtain ⟨ad,c,e,_,hK,hc0⟩:=Kd.C_get h z36 i h0 h1
  have hc : ∀ j u,c[j]? = some u → w.cell? (ad.add (i.toNat * 4 + j)) = some u:=hc0
  obtain rfl:=k36_open hK
  exact ⟨ad,e,hc 0 _ rfl,by rw [← add_field _ _ 1 (by omega)];exact hc 1 _ rfl,by rw [← add_field _ _ 2 (by omega)];exact hc 2 _ rfl,by rw [← add_field _ _ 3 (by omega)];exact hc 3 _ rfl⟩
theorem lA_ {α : Type _} (l : List α) (i : Nat) (a : α) : l.toArray.setIfInBounds i a = (l.set i a).toArray:=List.setIfInBounds_toArray l i a
theorem lZ_ {α : Type _} {x a : α} {xs : List α} : (x :: xs).set 0 a = a :: xs:=rfl
theorem lS_ {α : Type _} {x a : α} {xs : List α} {i : Nat} : (x :: xs).set (i + 1) a = x :: xs.set i a:=rfl
theorem rfield_ {P : Program} {t ty : TypeId} {f : Nat} {fs : Array Field} {xs : Array Value} {v : Value} {w : World} {d : TypeDesc} (o : Nat) (hu : P.underlying t = some (.struct fs)) (hq : P.underlying ty = some d) (hf : (fs[f]?).map (fun fd => (fd.offset,fd.type)) = some (o,ty)) (hp : (match d with | .struct _ | .array _ _ => true | _ => false) = false) (hx : xs[o]? = some v) :
    (Sem.run P (Instr.field t (.agg xs) f) w).andThen (fun a w' => Result.ok (Next.value a) w') = Result.ok (Next.value v) w:=by
  cases hd : fs[f]? with
  | none => simp [hd] at hf
  | some fd =>
    obtain ⟨rfl,rfl⟩ : fd.offset = o ∧ fd.type = ty:=by simpa [hd] using hf
    cases d <;> simp at hp <;> simp [Instr.field,run_underlying hu,hd,asAgg,part,isAgg,run_underlying hq,hx]
theorem upon_field_ {P : Program} {t ty : TypeId} {f : Nat} {fs : Array Field} {xs : Array Value} {v : Value} {w : World} {d : TypeDesc} {o : Oper} {a : Act} {next : Act → World → Prop} {Q : Exit → Act → World → Prop} (q : Nat) (hu : P.underlying t = some (.struct fs)) (hq : P.underlying ty = some d) (hf : (fs[f]?).map (fun fd => (fd.offset,fd.type)) = some (q,ty)) (hp : (match d with | .struct _ | .array _ _ => true | _ => false) = false) (hx : xs[q]? = some v) (h : Oper.upon P o a next Q (Result.ok (Next.value v) w)) :
    Oper.upon P o a next Q ((Sem.run P (Instr.field t (.agg xs) f) w).andThen (fun a w' => Result.ok (Next.value a) w')):=by
  rw [rfield_ q hu hq hf hp hx];exact h
theorem bc2 {w : World} {g : Nat} {t : TypeId} {c0 c1 : Value} (h : w.heap[g]? = some (.cells #[c0,c1] t (0,0))) : w.cell? ⟨g,0,none⟩ = some c0 ∧ w.cell? ⟨g,1,none⟩ = some c1 ∧ w.frozen? ⟨g,0,none⟩ = false ∧ w.frozen? ⟨g,1,none⟩ = false:=⟨(blk_cell h 0).trans rfl,(blk_cell h 1).trans rfl,blk_frozen h 0,blk_frozen h 1⟩
theorem bc3 {w : World} {g : Nat} {t : TypeId} {c0 c1 c2 : Value} (h : w.heap[g]? = some (.cells #[c0,c1,c2] t (0,0))) : w.cell? ⟨g,0,none⟩ = some c0 ∧ w.cell? ⟨g,1,none⟩ = some c1 ∧ w.cell? ⟨g,2,none⟩ = some c2 ∧ w.frozen? ⟨g,0,none⟩ = false ∧ w.frozen? ⟨g,1,none⟩ = false ∧ w.frozen? ⟨g,2,none⟩ = false:=⟨(blk_cell h 0).trans rfl,(blk_cell h 1).trans rfl,(blk_cell h 2).trans rfl,blk_frozen h 0,blk_frozen h 1,blk_frozen h 2⟩
theorem bc4 {w : World} {g : Nat} {t : TypeId} {c0 c1 c2 c3 : Value} (h : w.heap[g]? = some (.cells #[c0,c1,c2,c3] t (0,0))) : w.cell? ⟨g,0,none⟩ = some c0 ∧ w.cell? ⟨g,1,none⟩ = some c1 ∧ w.cell? ⟨g,2,none⟩ = some c2 ∧ w.cell? ⟨g,3,none⟩ = some c3 ∧ w.frozen? ⟨g,0,none⟩ = false ∧ w.frozen? ⟨g,1,none⟩ = false ∧ w.frozen? ⟨g,2,none⟩ = false ∧ w.frozen? ⟨g,3,none⟩ = false:=⟨(blk_cell h 0).trans rfl,(blk_cell h 1).trans rfl,(blk_cell h 2).trans rfl,(blk_cell h 3).trans rfl,blk_frozen h 0,blk_frozen h 1,blk_frozen h 2,blk_frozen h 3⟩
theorem bc6 {w : World} {g : Nat} {t : TypeId} {c0 c1 c2 c3 c4 c5 : Value} (h : w.heap[g]? = some (.cells #[c0,c1,c2,c3,c4,c5] t (0,0))) : w.cell? ⟨g,0,none⟩ = some c0 ∧ w.cell? ⟨g,1,none⟩ = some c1 ∧ w.cell? ⟨g,2,none⟩ = some c2 ∧ w.cell? ⟨g,3,none⟩ = some c3 ∧ w.cell? ⟨g,4,none⟩ = some c4 ∧ w.cell? ⟨g,5,none⟩ = some c5 ∧ w.frozen? ⟨g,0,none⟩ = false ∧ w.frozen? ⟨g,1,none⟩ = false ∧ w.frozen? ⟨g,2,none⟩ = false ∧ w.frozen? ⟨g,3,none⟩ = false ∧ w.frozen? ⟨g,4,none⟩ = false ∧ w.frozen? ⟨g,5,none⟩ = false:=⟨(blk_cell h 0).trans rfl,(blk_cell h 1).trans rfl,(blk_cell h 2).trans rfl,(blk_cell h 3).trans rfl,(blk_cell h 4).trans rfl,(blk_cell h 5).trans rfl,blk_frozen h 0,blk_frozen h 1,blk_frozen h 2,blk_frozen h 3,blk_frozen h 4,blk_frozen h 5⟩
theorem fill2 {w : World} {g : Nat} {t : TypeId} {c0 c1 v0 v1 : Value} (h : w.heap[g]? = some (.cells #[c0,c1] t (0,0))) : ((w.setCell ⟨g,0,none⟩ v0).setCell ⟨g,1,none⟩ v1).heap[g]? = some (.cells #[v0,v1] t (0,0)):=(blk_put (cs':=#[v0,v1]) (blk_put (cs':=#[v0,c1]) h 0 v0 rfl) 1 v1 rfl)
theorem fill3 {w : World} {g : Nat} {t : TypeId} {c0 c1 c2 v0 v1 v2 : Value} (h : w.heap[g]? = some (.cells #[c0,c1,c2] t (0,0))) : (((w.setCell ⟨g,0,none⟩ v0).setCell ⟨g,1,none⟩ v1).setCell ⟨g,2,none⟩ v2).heap[g]? = some (.cells #[v0,v1,v2] t (0,0)):=(blk_put (cs':=#[v0,v1,v2]) (blk_put (cs':=#[v0,v1,c2]) (blk_put (cs':=#[v0,c1,c2]) h 0 v0 rfl) 1 v1 rfl) 2 v2 rfl)
theorem fill4 {w : World} {g : Nat} {t : TypeId} {c0 c1 c2 c3 v0 v1 v2 v3 : Value} (h : w.heap[g]? = some (.cells #[c0,c1,c2,c3] t (0,0))) : ((((w.setCell ⟨g,0,none⟩ v0).setCell ⟨g,1,none⟩ v1).setCell ⟨g,2,none⟩ v2).setCell ⟨g,3,none⟩ v3).heap[g]? = some (.cells #[v0,v1,v2,v3] t (0,0)):=(blk_put (cs':=#[v0,v1,v2,v3]) (blk_put (cs':=#[v0,v1,v2,c3]) (blk_put (cs':=#[v0,v1,c2,c3]) (blk_put (cs':=#[v0,c1,c2,c3]) h 0 v0 rfl) 1 v1 rfl) 2 v2 rfl) 3 v3 rfl)
theorem fill6 {w : World} {g : Nat} {t : TypeId} {c0 c1 c2 c3 c4 c5 v0 v1 v2 v3 v4 v5 : Value} (h : w.heap[g]? = some (.cells #[c0,c1,c2,c3,c4,c5] t (0,0))) : ((((((w.setCell ⟨g,0,none⟩ v0).setCell ⟨g,1,none⟩ v1).setCell ⟨g,2,none⟩ v2).setCell ⟨g,3,none⟩ v3).setCell ⟨g,4,none⟩ v4).setCell ⟨g,5,none⟩ v5).heap[g]? = some (.cells #[v0,v1,v2,v3,v4,v5] t (0,0)):=(blk_put (cs':=#[v0,v1,v2,v3,v4,v5]) (blk_put (cs':=#[v0,v1,v2,v3,v4,c5]) (blk_put (cs':=#[v0,v1,v2,v3,c4,c5]) (blk_put (cs':=#[v0,v1,v2,c3,c4,c5]) (blk_put (cs':=#[v0,v1,c2,c3,c4,c5]) (blk_put (cs':=#[v0,c1,c2,c3,c4,c5]) h 0 v0 rfl) 1 v1 rfl) 2 v2 rfl) 3 v3 rfl) 4 v4 rfl) 5 v5 rfl)
theorem rfar2 {α : Type} {d : Kd α} {e base : Nat} {ok : Nat → Prop} {w : World} {g : Nat} {v0 v1 v : Value} {xs : List α} (h : d.R e w base ok v xs) (hok : ∀ k,ok k → k ≠ g) : d.R e ((w.setCell ⟨g,0,none⟩ v0).setCell ⟨g,1,none⟩ v1) base ok v xs:=(Kd.R_far (p:=⟨g,1,none⟩) (Kd.R_far (p:=⟨g,0,none⟩) h hok v0) hok v1)
theorem rfar3 {α : Type} {d : Kd α} {e base : Nat} {ok : Nat → Prop} {w : World} {g : Nat} {v0 v1 v2 v : Value} {xs : List α} (h : d.R e w base ok v xs) (hok : ∀ k,ok k → k ≠ g) : d.R e (((w.setCell ⟨g,0,none⟩ v0).setCell ⟨g,1,none⟩ v1).setCell ⟨g,2,none⟩ v2) base ok v xs:=(Kd.R_far (p:=⟨g,2,none⟩) (Kd.R_far (p:=⟨g,1,none⟩) (Kd.R_far (p:=⟨g,0,none⟩) h hok v0) hok v1) hok v2)
theorem rfar4 {α : Type} {d : Kd α} {e base : Nat} {ok : Nat → Prop} {w : World} {g : Nat} {v0 v1 v2 v3 v : Value} {xs : List α} (h : d.R e w base ok v xs) (hok : ∀ k,ok k → k ≠ g) : d.R e ((((w.setCell ⟨g,0,none⟩ v0).setCell ⟨g,1,none⟩ v1).setCell ⟨g,2,none⟩ v2).setCell ⟨g,3,none⟩ v3) base ok v xs:=(Kd.R_far (p:=⟨g,3,none⟩) (Kd.R_far (p:=⟨g,2,none⟩) (Kd.R_far (p:=⟨g,1,none⟩) (Kd.R_far (p:=⟨g,0,none⟩) h hok v0) hok v1) hok v2) hok v3)
theorem rfar6 {α : Type} {d : Kd α} {e base : Nat} {ok : Nat → Prop} {w : World} {g : Nat} {v0 v1 v2 v3 v4 v5 v : Value} {xs : List α} (h : d.R e w base ok v xs) (hok : ∀ k,ok k → k ≠ g) : d.R e ((((((w.setCell ⟨g,0,none⟩ v0).setCell ⟨g,1,none⟩ v1).setCell ⟨g,2,none⟩ v2).setCell ⟨g,3,none⟩ v3).setCell ⟨g,4,none⟩ v4).setCell ⟨g,5,none⟩ v5) base ok v xs:=(Kd.R_far (p:=⟨g,5,none⟩) (Kd.R_far (p:=⟨g,4,none⟩) (Kd.R_far (p:=⟨g,3,none⟩) (Kd.R_far (p:=⟨g,2,none⟩) (Kd.R_far (p:=⟨g,1,none⟩) (Kd.R_far (p:=⟨g,0,none⟩) h hok v0) hok v1) hok v2) hok v3) hok v4) hok v5)
theorem goesA_ {P : Program} {ops : Array Oper} {Q : Exit → Act → World → Prop} {rest : List Oper} {oi : Oper} {a : Act} {w : World} (N : Option Tmp) (hd : oi.dst = N) (hg : oi.guard = none) {f : FuncId} {fn : Func} {as_ : Array Operand} {ts : Array TypeId} (hf : P.funcs[f]? = some fn) (hname : (fn.name == "runtime.NumGoroutine") = false) (hb : fn.body.isSome = true) (args : Array Value)
    (hop : oi.op = .call { callee:=.value (.func f),args:=as_,argTypes:=ts })
    (h : Calls P f args w fun e w' => ∃ v,e = .returned v ∧ wpList P ops Q rest (a.put N v) w') (hargs : as_.map a.eval = args:=by (try simp only [List.map_toArray,List.map_cons,List.map_nil]);first | done | rfl | (simp only [List.length_drop,List.length_take];rfl)) : wpList P ops Q (oi :: rest) a w :=
  goesL_ N hd hg hf hname hb args hop hargs h
abbrev zs5 : Array Value:=#[.int .i64 0,.int .i64 0,.int .i64 0,.int .i64 0,.int .i64 0,.slice none 0 0]
abbrev rA_:=@Kd.R_alloc
abbrev rD_:=@Kd.R_drew
abbrev rN_:=@Kd.R_drewN
abbrev lA1_:=@below_alloc
abbrev lD_:=@below_drew1
abbrev lS1_:=@below_set
abbrev lP_:=@below_step
abbrev bA_:=@blk_alloc
abbrev bB_:=@blk_below
abbrev bD_:=@blk_drew
abbrev bN_:=@blk_drewN
abbrev bF_:=@blk_far
abbrev kA_:=@keep_alloc
abbrev kD_:=@keep_drew
abbrev kN_:=@keep_drewN
abbrev kF_:=@keep_far
abbrev lN_:=@pw_below_drewN
theorem bS_ {α β : Type} {x : Option α} {f : α → Option β} {r : β} (h : x.bind f = some r) : ∃ t,Aside0 (x = some t) ∧ f t = some r:=by
  obtain ⟨t,a,b⟩:=Option.bind_eq_some_iff.mp h
  exact ⟨t,⟨a⟩,b⟩
theorem iB_ {α : Type} {t : Bool} {x y : Option α} {r : α} (h : (if t = true then x else y) = some r) : t = true ∧ x = some r ∨ t = false ∧ y = some r:=by cases t <;> simp_all
theorem iC_ {α : Type} {p : Prop} {inst : Decidable p} {x y : Option α} {r : α} (h : @ite _ p inst x y = some r) : p ∧ x = some r ∨ ¬ p ∧ y = some r:=by
  by_cases c : p
  · rw [if_pos c] at h;exact Or.inl ⟨c,h⟩
  · rw [if_neg c] at h;exact Or.inr ⟨c,h⟩
theorem iE_ {α : Type} {a b : Int} {inst : Decidable (a = b)} {x y : Option α} {r : α} (h : @ite _ (a = b) inst x y = some r) : (a == b) = true ∧ (a != b) = false ∧ x = some r ∨ (a == b) = false ∧ (a != b) = true ∧ y = some r:=by
  obtain ⟨c,h⟩ | ⟨c,h⟩:=iC_ h
  · exact Or.inl ⟨beq_iff_eq.mpr c,bne_eq_false_iff_eq.mpr c,h⟩
  · exact Or.inr ⟨beq_eq_false_iff_ne.mpr c,bne_iff_ne.mpr c,h⟩
theorem iD_ {α : Type} {p : Prop} {inst : Decidable p} {x y : Option α} {r : α} (h : @ite _ p inst x y = some r) : @decide p inst = true ∧ x = some r ∨ @decide p inst = false ∧ y = some r:=by
  obtain ⟨c,h⟩ | ⟨c,h⟩:=iC_ h
  · exact Or.inl ⟨decide_eq_true c,h⟩
  · exact Or.inr ⟨decide_eq_false c,h⟩
theorem iN_ {α : Type} {p : Prop} {inst : Decidable p} {x : Option α} {r : α} (h : @ite _ p inst x none = some r) : p ∧ x = some r:=by
  obtain ⟨c,h⟩ | ⟨c,h⟩:=iC_ h
  · exact ⟨c,h⟩
  · cases h
theorem iM_ {α : Type} {p : Prop} {inst : Decidable p} {x : Option α} {r : α} (h : @ite _ p inst x none = some r) : @decide p inst = true ∧ x = some r:=⟨decide_eq_true (iN_ h).1,(iN_ h).2⟩
def Bt (n m : Nat) : Array Bool:=⟨(List.range n).map fun i => m.testBit i⟩
theorem Z_ {p : Prop} (h : p) : Aside0 p:=⟨h⟩
theorem Lb_ {P : Prop} (h : P:=by repeat (first | (with_reducible first | exact HB.out | apply lA1_ | apply lN_ | apply lD_ | refine lS1_ ?_ (Aside0.out (by assumption))) | exact HB.out)) : P:=h
theorem Bk_ {P Q : Prop} (a : Aside0 Q) (h : Q → P:=by intro h_;(with_reducible repeat first | apply bN_ | apply bD_ | apply bA_);exact h_) : P:=h a.out
theorem Rk_ {P Q : Prop} (a : Aside0 Q) (h : Q → P:=by intro h_;(with_reducible repeat first | apply rA_ | apply rN_ | apply rD_);exact h_) : P:=h a.out
theorem Cb_ {P Q : Prop} (a : Aside0 Q) (h : Q → P:=by intro h_;repeat (first | exact (Kd.C_below h_ HB.out) | (with_reducible refine Kd.C_alloc ?_ _) | (with_reducible refine Kd.C_drewN ?_ _) | (with_reducible refine Kd.C_drew ?_))) : P:=h a.out
theorem Rc_ {P Q : Prop} (a : Aside0 Q) (h : Q → P:=by intro h_;repeat (first | exact (Kd.R_reads' h_).2.2 | (with_reducible refine Kd.C_alloc ?_ _) | (with_reducible refine Kd.C_drewN ?_ _) | (with_reducible refine Kd.C_drew ?_))) : P:=h a.out
theorem Er_ {P : Prop} (h : P:=by first | rfl | (simp [errW_none,errW_some] <;> rfl) | (simp [*,errW_none,errW_some] <;> rfl)) : P:=h
theorem Sr_ {P : Prop} (h : P:=by first | rfl | (simp;done) | (simp [*];done)) : P:=h
theorem Ol_ {P : Prop} (h : P:=by first | omega | exact Nat.le_refl _) : Aside0 P:=⟨h⟩
theorem dA_ {p : Prop} {inst : Decidable p} (h : @decide p inst = true:=by first | (with_reducible assumption) | assumption) : p:=of_decide_eq_true h
theorem cB_ {w w' : World} {p : Addr} {v : Value} (h : Aside0 (Below w.heap.size w w')) (hx : w.cell? p = some v) : w'.cell? p = some v:=(h.out.cell (World.block_lt_of_cell? w _ hx)).trans hx
section
variable {P : Program} {ops : Array Oper} {rest : List Oper} {o : Oper} {a : Act} {Q : Exit → Act → World → Prop}
theorem bx_ {W : World} (cs : Array Value) (t : TypeId) (h : ∀ g,g = W.heap.size → ∀ w1,w1.heap[g]? = some (.cells cs t (0,0)) → Below W.heap.size W w1 → wpList P ops Q rest (a.put o.dst (.pointer (some ⟨g,0,none⟩))) w1) (hgd : o.guard = none:=by rfl) (hrun : (execOp a.eval o).run P W = .ok (.value (.pointer (some ⟨W.heap.size,0,none⟩))) (W.alloc (.cells cs t (0,0))):=by first | (go_simp;done) | (go_simp;rfl)) : wpList P ops Q (o :: rest) a W :=
  Kd.event_run hgd hrun (h _ rfl _ (blk_new W _) (below_alloc (Below.refl _ _) _))
theorem pu_ {S : World → Prop} {md : Region.Mode} {ds : List Nat} {oi : Oper} {v : Value} {fuel : Nat} {l : Array Bool} {w : World} {a' : Act} (i : Nat) (N : Option Tmp) (l' : Array Bool) (hc : anyB md ops l l' i = true) (h : wpAnyLast P md ops Q S ds fuel l' a' w) (hi : ops[i]? = some oi:=by rfl) (hN : oi.dst = N:=by rfl) (hQ : ∀ c a w,Q (.panic c) (a.put oi.dst v) w → Q (.panic c) a w:=by exact fun _ _ _ h => h) (hy : Yields P ops oi v a:=by (refine Or.inl ⟨by rfl,?_⟩;intro w';go_simp;with_reducible rfl)) (ha : a.put N v = a':=by (simp only [Act.put,lA_,lZ_,lS_,i64_w,i32_w];rfl)) : wpAnyLast P md ops Q S ds (fuel + 1) l a w:=pure_ l' hi hN hc hQ hy ha h
theorem ta_ {S : World → Prop} {md : Region.Mode} {ds : List Nat} {oi : Oper} {v : Value} {fuel : Nat} {l : Array Bool} {w : World} {a' : Act} (i : Nat) (N : Option Tmp) (l' : Array Bool) (hc : takeB md ops ds l l' i = true) (hS : S w) (h : wpAnyLast P md ops Q S ds fuel l' a' w) (hi : ops[i]? = some oi:=by rfl) (hN : oi.dst = N:=by rfl) (hQ : ∀ c a w,Q (.panic c) (a.put oi.dst v) w → Q (.panic c) a w:=by exact fun _ _ _ h => h) (hy : YieldsIf P ops S oi v a:=by (refine Or.inl ⟨by rfl,?_⟩;intro w' s_;repeat (have:=And.left s_;replace s_:=And.right s_);go_simp;with_reducible rfl)) (ha : a.put N v = a':=by (simp only [Act.put,lA_,lZ_,lS_,i64_w,i32_w];rfl)) : wpAnyLast P md ops Q S ds (fuel + 1) l a w:=take_ l' hi hN hc hQ hy hS ha h
theorem gD_ {W : World} (N : Tmp) (_hN : o.dst = some N) (h : wpList P ops Q (o :: rest) a W) : wpList P ops Q (o :: rest) a W:=h
end
end Go.Proofs.Ytpabeajjbifjdaa.G
namespace Go.Proofs.Ytpabeajjbifjdaa.G
open Go.RowKit Go.Proofs.YtpabeajjbifjdaaW.PrintWords Go.Proofs.YtpabeajjbifjdaaW.PrintLast Go.Proofs.YtpabeajjbifjdaaW.PrintMore
attribute [local go_sem] max2_int min2_int max_two min_two max_three min_three max_four min_four   -- for this text's walks alone
set_option linter.unusedVariables false
set_option linter.unusedSimpArgs false
theorem eqA28 (d : Nat) (w : World) (x0 y0 x1 y1 x2 y2 x3 y3 : Int) :
    (Op.equalIn (d + 2) 28 (.agg #[.int .i64 x0,.int .i64 x1,.int .i64 x2,.int .i64 x3]) (.agg #[.int .i64 y0,.int .i64 y1,.int .i64 y2,.int .i64 y3])).run Try.prog w = .ok (x0 == y0 && (x1 == y1 && (x2 == y2 && (x3 == y3)))) w:=by
  refine eqA_of Try.underlying28 (by kernel_rfl) ?_
  refine eqf_cons (by rfl) (by go_simp;rfl) (by go_simp;rfl) (by go_simp) ?_
  refine eqf_cons (by rfl) (by go_simp;rfl) (by go_simp;rfl) (by go_simp) ?_
  refine eqf_cons (by rfl) (by go_simp;rfl) (by go_simp;rfl) (by go_simp) ?_
  exact eqf_last (by rfl) (by go_simp;rfl) (by go_simp;rfl) (by go_simp)
def laws_lwBig.f (l0 : List Int) : Option (Bool):=some (decide ((l0.length : Int) > 1048576))
set_option maxHeartbeats 8000000 in
set_option maxRecDepth 100000 in
theorem laws_lwBig.calls (A0 : Option Addr) (c0 : Nat) (l0 : List Int) (r : Bool) (w : World) (hr0 : Kd.C (Kd.int .u8) w A0 l0.length l0) (hc0 : l0.length ≤ c0) (h : laws_lwBig.f l0 = some r) :
  Calls Try.prog 6 #[.slice A0 l0.length c0] w fun e w' => e = .returned (.bool r) ∧ Drawn0 w w':=by
 have HR0:=Z_ hr0
 have HC0:=Z_ hc0
 clear hr0 hc0
 unfold laws_lwBig.f at h
 have H:=h
 clear h
 obtain rfl:=Option.some.inj H
 go_enter Try.func6,Try.ntmps6
 go_wp2
 go_ret
 exact ⟨by first | rfl | (simp;done) | (simp [*];done),by repeat (first | exact Drawn0.refl _ | apply Drawn0.step)⟩
def IsS117 (w0 W : World) (g : Nat) (f0 : List Int) (f1 : Int) : Prop:=∃ A0 c0,W.heap[g]? = some (.cells #[.slice A0 f0.length c0,.int .i64 f1] 117 (0,0)) ∧ w0.heap.size ≤ g ∧ Kd.C (Kd.int .u8) w0 A0 f0.length f0
theorem IsS117.grown {w0 W : World} {g : Nat} {f0 : List Int} {f1 : Int} {W1 : World} {row : Option Nat} (h : IsS117 w0 W g f0 f1) (hw : W.grownBy W1 row) (hne : some g ≠ row) : IsS117 w0 W1 g f0 f1:=by
 obtain ⟨A0,c0,hb,hg,hr0⟩:=h
 exact ⟨A0,c0,blk_grown hb hw hne,hg,hr0⟩
theorem IsS117.kept {w0 W : World} {g : Nat} {f0 : List Int} {f1 : Int} {W1 : World} {S : Nat → Prop} (h : IsS117 w0 W g f0 f1) (hk : Kept W W1 S) (hne : ¬ S g) : IsS117 w0 W1 g f0 f1:=by
 obtain ⟨A0,c0,hb,hg,hr0⟩:=h
 exact ⟨A0,c0,blk_kept hb hk hne,hg,hr0⟩
theorem IsS117.below {w0 W : World} {g : Nat} {f0 : List Int} {f1 : Int} {W1 : World} (h : IsS117 w0 W g f0 f1) (hw : Below W.heap.size W W1) : IsS117 w0 W1 g f0 f1:=h.grown (grown_of_below hw none) (by simp)
theorem IsS117.alloc {w0 W : World} {g : Nat} {f0 : List Int} {f1 : Int} (h : IsS117 w0 W g f0 f1) (o : Obj) : IsS117 w0 (W.alloc o) g f0 f1:=h.below (lA1_ (Below.refl _ _) o)
theorem IsS117.drewN {w0 W : World} {g : Nat} {f0 : List Int} {f1 : Int} (h : IsS117 w0 W g f0 f1) (m : Nat) : IsS117 w0 (W.drewN m) g f0 f1:=h
theorem IsS117.drew {w0 W : World} {g : Nat} {f0 : List Int} {f1 : Int} (h : IsS117 w0 W g f0 f1) : IsS117 w0 W.drew g f0 f1:=h
theorem IsS117.at_ {w0 W : World} {g : Nat} {f0 : List Int} {f1 : Int} {w' : World} {m : Nat} (hq : W.drewN m = w') (h : IsS117 w0 W g f0 f1) : IsS117 w0 w' g f0 f1:=by subst hq;exact IsS117.drewN h m
theorem IsS117.apart {w0 W : World} {g : Nat} {f0 : List Int} {f1 : Int} {α : Type} {d : Kd α} {e : Nat} {base : Nat} {ok : Nat → Prop} {v : Value} {xs : List α} (h : IsS117 w0 W g f0 f1) (ho : d.R e W base ok v xs) (ht : ∀ q,q ∈ e :: d.E → q ≠ 117) : d.R e W base (fun k => ok k ∧ k ≠ g) v xs:=by
 obtain ⟨A0,c0,hb,hg,hr0⟩:=h
 exact Kd.R_types ho hb ht
theorem IsS117.own_ne {w0 W : World} {g : Nat} {f0 : List Int} {f1 : Int} {α : Type} {d : Kd α} {e : Nat} {base : Nat} {ok : Nat → Prop} {v : Value} {xs : List α} (h : IsS117 w0 W g f0 f1) (ho : d.R e W base ok v xs) (ht : e ≠ 117) : some g ≠ v.ownBlock:=by
 obtain ⟨A0,c0,hb,hg,hr0⟩:=h
 exact Kd.R_ne ho hb ht
theorem IsS117.lt {w0 W : World} {g : Nat} {f0 : List Int} {f1 : Int} (h : IsS117 w0 W g f0 f1) : g < W.heap.size:=by
 obtain ⟨A0,c0,hb,hg,hr0⟩:=h
 exact blk_lt hb
theorem IsS117.ge {w0 W : World} {g : Nat} {f0 : List Int} {f1 : Int} (h : IsS117 w0 W g f0 f1) : w0.heap.size ≤ g:=by
 obtain ⟨A0,c0,hb,hg,hr0⟩:=h
 exact hg
theorem IsS117.far {w0 W : World} {g : Nat} {f0 : List Int} {f1 : Int} {p : Addr} (h : IsS117 w0 W g f0 f1) (hne : g ≠ p.block) (u : Value) : IsS117 w0 (W.setCell p u) g f0 f1:=by
 obtain ⟨A0,c0,hb,hg,hr0⟩:=h
 exact ⟨A0,c0,bF_ hb hne u,hg,hr0⟩
theorem cellS117_0 {W : World} {g : Nat} {A0 : Option Addr} {c0 : Nat} {f0 : List Int} {f1 : Int} (h : W.heap[g]? = some (.cells #[.slice A0 f0.length c0,.int .i64 f1] 117 (0,0))) : W.cell? ⟨g,0,none⟩ = some (.slice A0 f0.length c0):=(blk_cell h 0).trans rfl
theorem cellS117_1 {W : World} {g : Nat} {A0 : Option Addr} {c0 : Nat} {f0 : List Int} {f1 : Int} (h : W.heap[g]? = some (.cells #[.slice A0 f0.length c0,.int .i64 f1] 117 (0,0))) : W.cell? ⟨g,1,none⟩ = some (.int .i64 f1):=(blk_cell h 1).trans rfl
theorem IsS117.set_1 {w0 W : World} {g : Nat} {f0 : List Int} {f1 : Int} (h : IsS117 w0 W g f0 f1) (x : Int) : IsS117 w0 (W.setCell ⟨g,1,none⟩ (.int .i64 x)) g f0 x:=by
 obtain ⟨A0,c0,hb,hg,hr0⟩:=h
 exact ⟨A0,c0,by simpa using blk_set hb 1 (.int .i64 x),hg,hr0⟩
def spec_l1Source.f (l0 : List Int) : Option (List Int × Int):=some (l0,0)
set_option maxHeartbeats 8000000 in
set_option maxRecDepth 100000 in
theorem spec_l1Source.calls (A0 : Option Addr) (c0 : Nat) (l0 r1 : List Int) (r2 : Int) (w0 w : World) (hB : Below w0.heap.size w0 w) (hr0 : Kd.C (Kd.int .u8) w0 A0 l0.length l0) (hc0 : l0.length ≤ c0) (h : spec_l1Source.f l0 = some (r1,r2)) :
  Calls Try.prog 35 #[.slice A0 l0.length c0] w fun e w' => ∃ g_ : Nat,e = .returned (.pointer (some ⟨g_,0,none⟩)) ∧ IsS117 w0 w' g_ r1 r2 ∧ Below w0.heap.size w0 w' ∧ Below w.heap.size w w':=by
 have hu117:=Try.underlying117
 have HR0:=Z_ hr0
 have HC0:=Z_ hc0
 clear hr0 hc0
 have HBW:=Z_ (Below.refl w.heap.size w)
 have HW0:=Z_ hB.size
 have HB:=Z_ hB
 clear hB
 unfold spec_l1Source.f at h
 have H:=h
 clear h
 simp only [Option.some.injEq,Prod.mk.injEq] at H
 obtain ⟨rfl,rfl⟩:=H
 go_enter Try.func35,Try.ntmps35
 go_wp2_with (first | ((with_reducible refine gD_ 5 rfl ?_);refine bx_ #[.slice A0 l0.length c0,.int .i64 0] 117 ?_;intro gb101 hg w2 hbox hb;replace HB:=Z_ (lP_ HB.out hb);have BK101:=Z_ hbox;have GW101:=Z_ ((by rw [hg];exact (below_size HBW.out) : w.heap.size ≤ gb101));have GE101:=Z_ ((Nat.le_trans HW0.out (by rw [hg];exact (below_size HBW.out) : w.heap.size ≤ gb101) : w0.heap.size ≤ gb101));replace HBW:=Z_ (lP_ HBW.out hb);clear hb hbox hg))
 go_ret
 exact ⟨_,rfl,(show IsS117 w0 _ gb101 l0 0 from ⟨_,_,Bk_ BK101,GE101.out,HR0.out⟩),Lb_,by repeat (first | (with_reducible first | exact HBW.out | apply lA1_ | apply lN_ | apply lD_ | refine lS1_ ?_ GW101.out) | exact HBW.out)⟩
def spec_l1Next.f (s0_0 : List Int) (s0_1 a1 : Int) : Option (Int × Int):=if a1 < 1 then (some (0,wrap64 (s0_1 + 1))) else (if (s0_0.length : Int) = 0 then (if a1 = 0 then (none) else (some (Int.tmod (wrap64 ((wrap64 ((wrap64 (s0_1 + 1)) - 1)) * 7)) a1,wrap64 (s0_1 + 1)))) else (if 0 ≤ (Int.tmod (wrap64 ((wrap64 (s0_1 + 1)) - 1)) (s0_0.length : Int)) then (if (Int.tmod (wrap64 ((wrap64 (s0_1 + 1)) - 1)) (s0_0.length : Int)) < (s0_0.length : Int) then (if a1 > 200 then (if 0 ≤ (Int.tmod (wrap64 ((wrap64 ((wrap64 (s0_1 + 1)) - 1)) + 1)) (s0_0.length : Int)) then (if (Int.tmod (wrap64 ((wrap64 ((wrap64 (s0_1 + 1)) - 1)) + 1)) (s0_0.length : Int)) < (s0_0.length : Int) then (if a1 = 0 then (none) else (some (Int.tmod (wrap64 ((wrap64 ((wrap64 ((wrap64 ((wrap64 (rd s0_0 (Int.tmod (wrap64 ((wrap64 (s0_1 + 1)) - 1)) (s0_0.length : Int)))) + (wrap64 ((wrap64 (Int.tdiv (wrap64 ((wrap64 (s0_1 + 1)) - 1)) (s0_0.length : Int))) * 37)))) * 251)) + (wrap64 ((wrap64 (rd s0_0 (Int.tmod (wrap64 ((wrap64 ((wrap64 (s0_1 + 1)) - 1)) + 1)) (s0_0.length : Int)))) * 13)))) + (wrap64 ((wrap64 (s0_1 + 1)) - 1)))) a1,wrap64 (s0_1 + 1)))) else (none)) else (none)) else (if a1 = 0 then (none) else (some (Int.tmod (wrap64 ((wrap64 (rd s0_0 (Int.tmod (wrap64 ((wrap64 (s0_1 + 1)) - 1)) (s0_0.length : Int)))) + (wrap64 ((wrap64 (Int.tdiv (wrap64 ((wrap64 (s0_1 + 1)) - 1)) (s0_0.length : Int))) * 37)))) a1,wrap64 (s0_1 + 1))))) else (none)) else (none)))
set_option maxHeartbeats 8000000 in
set_option maxRecDepth 100000 in
theorem spec_l1Next.calls (g : Nat) (s0_0 : List Int) (s0_1 a1 r1 r2 : Int) (w0 w : World) (hI : IsS117 w0 w g s0_0 s0_1) (hB : Below w0.heap.size w0 w) (h : spec_l1Next.f s0_0 s0_1 a1 = some (r1,r2)) :
  Calls Try.prog 39 #[.pointer (some ⟨g,0,none⟩),.int .i64 a1] w fun e w' => e = .returned (.int .i64 r1) ∧ IsS117 w0 w' g s0_0 r2 ∧ Below w0.heap.size w0 w' ∧ KeepBut w w' g none:=by
 have HI0:=Z_ hI
 have HK:=Z_ (KeepBut.refl w g none)
 have HL:=Z_ hB.size
 clear hI
 have HW0:=Z_ hB.size
 have HB:=Z_ hB
 clear hB
 unfold spec_l1Next.f at h
 have H:=h
 clear h
 replace H:=iD_ H
 obtain ⟨c3b0,H⟩ | ⟨c3b0,H⟩:=H
 ·simp only [Option.some.injEq,Prod.mk.injEq] at H
  obtain ⟨rfl,rfl⟩:=H
  obtain ⟨ASz4_0,cSz4_0,HGz4,hgz4,HSz4_0⟩:=HI0.out
  have hcz4_0:=cellS117_0 HGz4
  have hcz4_1:=cellS117_1 HGz4
  have hfz4_1:=blk_frozen HGz4 1
  clear HGz4 hgz4
  go_enter Try.func39,Try.ntmps39
  go_wp2
  repeat (go_quiet (fail);try go_wp2)
  go_ret
  exact ⟨Er_,by repeat (first | (with_reducible first | exact HI0.out | apply IsS117.alloc | apply IsS117.drewN | apply IsS117.drew | apply IsS117.set_1) | exact HI0.out),by repeat (first | (with_reducible first | exact HB.out | apply lA1_ | apply lN_ | apply lD_ | refine lS1_ ?_ (IsS117.ge HI0.out)) | exact HB.out),by repeat (first | (with_reducible first | exact HK.out | apply KeepBut.set_ | apply kN_ | apply kD_ | apply kA_) | exact HK.out)⟩
 replace H:=iC_ H
 obtain ⟨c5,H⟩ | ⟨c5,H⟩:=H
 ·have c5b0 : ((s0_0.length : Int) == 0) = true:=beq_iff_eq.mpr c5
  have c5b1 : ((s0_0.length : Int) != 0) = false:=bne_eq_false_iff_eq.mpr c5
  clear c5
  replace H:=iC_ H
  obtain ⟨c6,H⟩ | ⟨c6,H⟩:=H
  ·exact absurd H (by simp)
  have c6b0 : (a1 == 0) = false:=beq_eq_false_iff_ne.mpr c6
  have c6b1 : (a1 != 0) = true:=bne_iff_ne.mpr c6
  simp only [Option.some.injEq,Prod.mk.injEq] at H
  obtain ⟨rfl,rfl⟩:=H
  obtain ⟨ASz7_0,cSz7_0,HGz7,hgz7,HSz7_0⟩:=HI0.out
  have hcz7_0:=cellS117_0 HGz7
  have hcz7_1:=cellS117_1 HGz7
  have hfz7_1:=blk_frozen HGz7 1
  clear HGz7 hgz7
  go_enter Try.func39,Try.ntmps39
  go_wp2
  repeat (go_quiet (fail);try go_wp2)
  go_ret
  exact ⟨Er_,by repeat (first | (with_reducible first | exact HI0.out | apply IsS117.alloc | apply IsS117.drewN | apply IsS117.drew | apply IsS117.set_1) | exact HI0.out),by repeat (first | (with_reducible first | exact HB.out | apply lA1_ | apply lN_ | apply lD_ | refine lS1_ ?_ (IsS117.ge HI0.out)) | exact HB.out),by repeat (first | (with_reducible first | exact HK.out | apply KeepBut.set_ | apply kN_ | apply kD_ | apply kA_) | exact HK.out)⟩
 have c5b0 : ((s0_0.length : Int) == 0) = false:=beq_eq_false_iff_ne.mpr c5
 have c5b1 : ((s0_0.length : Int) != 0) = true:=bne_iff_ne.mpr c5
 have c5b2 : ¬ (s0_0 = []):=fun h_ => c5 (by rw [h_];rfl)
 obtain ⟨ji8,hji8⟩ : ∃ j_ : Int,(Int.tmod (wrap64 ((wrap64 (s0_1 + 1)) - 1)) (s0_0.length : Int)) = j_:=⟨_,rfl⟩
 replace H : (if 0 ≤ (ji8) then (if (ji8) < (s0_0.length : Int) then (if a1 > 200 then (if 0 ≤ (Int.tmod (wrap64 ((wrap64 ((wrap64 (s0_1 + 1)) - 1)) + 1)) (s0_0.length : Int)) then (if (Int.tmod (wrap64 ((wrap64 ((wrap64 (s0_1 + 1)) - 1)) + 1)) (s0_0.length : Int)) < (s0_0.length : Int) then (if a1 = 0 then (none) else (some (Int.tmod (wrap64 ((wrap64 ((wrap64 ((wrap64 ((wrap64 (rd s0_0 (ji8))) + (wrap64 ((wrap64 (Int.tdiv (wrap64 ((wrap64 (s0_1 + 1)) - 1)) (s0_0.length : Int))) * 37)))) * 251)) + (wrap64 ((wrap64 (rd s0_0 (Int.tmod (wrap64 ((wrap64 ((wrap64 (s0_1 + 1)) - 1)) + 1)) (s0_0.length : Int)))) * 13)))) + (wrap64 ((wrap64 (s0_1 + 1)) - 1)))) a1,wrap64 (s0_1 + 1)))) else (none)) else (none)) else (if a1 = 0 then (none) else (some (Int.tmod (wrap64 ((wrap64 (rd s0_0 (ji8))) + (wrap64 ((wrap64 (Int.tdiv (wrap64 ((wrap64 (s0_1 + 1)) - 1)) (s0_0.length : Int))) * 37)))) a1,wrap64 (s0_1 + 1))))) else (none)) else (none)) = some (r1,r2):=by first | (rw [hji8] at H;exact H) | (simp only [hji8] at H ⊢;exact H)
 replace H:=iM_ H
 obtain ⟨c9b0,H⟩:=H
 replace H:=iM_ H
 obtain ⟨c10b0,H⟩:=H
 replace H:=iD_ H
 obtain ⟨c11b0,H⟩ | ⟨c11b0,H⟩:=H
 rotate_left
 ·replace c11b0 : decide (200 < a1) = false:=c11b0
  replace H:=iC_ H
  obtain ⟨c17,H⟩ | ⟨c17,H⟩:=H
  ·exact absurd H (by simp)
  have c17b0 : (a1 == 0) = false:=beq_eq_false_iff_ne.mpr c17
  have c17b1 : (a1 != 0) = true:=bne_iff_ne.mpr c17
  simp only [Option.some.injEq,Prod.mk.injEq] at H
  obtain ⟨rfl,rfl⟩:=H
  obtain ⟨ASz18_0,cSz18_0,HGz18,hgz18,HSz18_0⟩:=HI0.out
  have hcz18_0:=cellS117_0 HGz18
  have hcz18_1:=cellS117_1 HGz18
  have hfz18_1:=blk_frozen HGz18 1
  clear HGz18 hgz18
  have p102 : 0 ≤ ((ji8) : Int):=dA_
  have q102 : (ji8) < (s0_0.length : Int):=dA_
  obtain ⟨ad102,e102,hx102_0⟩:=Kd.at_int HSz18_0 (ji8) p102 q102
  cases e102
  have hn102_0 : ad102.block ≠ g:=Nat.ne_of_lt (Nat.lt_of_lt_of_le (by have:=World.block_lt_of_cell? _ _ hx102_0;first | rwa [add_block] at this | exact this) (IsS117.ge HI0.out))
  replace hx102_0:=pw_cell_below HB.out hx102_0
  replace hx102_0:=(cell_far (p:=⟨g,1,none⟩) (by first | (rw [add_block];exact hn102_0) | (show (Addr.add _ _).block ≠ _;rw [add_block];exact hn102_0) | exact hn102_0) (.int .i64 (wrap64 (s0_1 + 1)))).trans hx102_0
  (try have hy102_0:=fun (n_ : Nat) => (show (((w.drewN n_).setCell ⟨g,1,none⟩ (.int .i64 (wrap64 (s0_1 + 1))))).cell? _ = some _ from hx102_0))
  clear hn102_0
  replace p102:=eq_true p102
  replace q102:=eq_true q102
  go_enter Try.func39,Try.ntmps39
  go_wp2
  repeat (go_quiet (fail);try go_wp2)
  go_ret
  exact ⟨by first | rfl | (simp [errW_none,errW_some] <;> rfl) | (simp only [← hji8];first | rfl | (simp [errW_none,errW_some] <;> rfl)) | (simp [*,errW_none,errW_some] <;> rfl),by repeat (first | (with_reducible first | exact HI0.out | apply IsS117.alloc | apply IsS117.drewN | apply IsS117.drew | apply IsS117.set_1) | exact HI0.out),by repeat (first | (with_reducible first | exact HB.out | apply lA1_ | apply lN_ | apply lD_ | refine lS1_ ?_ (IsS117.ge HI0.out)) | exact HB.out),by repeat (first | (with_reducible first | exact HK.out | apply KeepBut.set_ | apply kN_ | apply kD_ | apply kA_) | exact HK.out)⟩
 rotate_right
 replace c11b0 : decide (200 < a1) = true:=c11b0
 obtain ⟨ji12,hji12⟩ : ∃ j_ : Int,(Int.tmod (wrap64 ((wrap64 ((wrap64 (s0_1 + 1)) - 1)) + 1)) (s0_0.length : Int)) = j_:=⟨_,rfl⟩
 replace H : (if 0 ≤ (ji12) then (if (ji12) < (s0_0.length : Int) then (if a1 = 0 then (none) else (some (Int.tmod (wrap64 ((wrap64 ((wrap64 ((wrap64 ((wrap64 (rd s0_0 (ji8))) + (wrap64 ((wrap64 (Int.tdiv (wrap64 ((wrap64 (s0_1 + 1)) - 1)) (s0_0.length : Int))) * 37)))) * 251)) + (wrap64 ((wrap64 (rd s0_0 (ji12))) * 13)))) + (wrap64 ((wrap64 (s0_1 + 1)) - 1)))) a1,wrap64 (s0_1 + 1)))) else (none)) else (none)) = some (r1,r2):=by first | (rw [hji12] at H;exact H) | (simp only [hji12] at H ⊢;exact H)
 replace H:=iM_ H
 obtain ⟨c13b0,H⟩:=H
 replace H:=iM_ H
 obtain ⟨c14b0,H⟩:=H
 replace H:=iC_ H
 obtain ⟨c15,H⟩ | ⟨c15,H⟩:=H
 ·exact absurd H (by simp)
 have c15b0 : (a1 == 0) = false:=beq_eq_false_iff_ne.mpr c15
 have c15b1 : (a1 != 0) = true:=bne_iff_ne.mpr c15
 simp only [Option.some.injEq,Prod.mk.injEq] at H
 obtain ⟨rfl,rfl⟩:=H
 obtain ⟨ASz16_0,cSz16_0,HGz16,hgz16,HSz16_0⟩:=HI0.out
 have hcz16_0:=cellS117_0 HGz16
 have hcz16_1:=cellS117_1 HGz16
 have hfz16_1:=blk_frozen HGz16 1
 clear HGz16 hgz16
 have p102 : 0 ≤ ((ji8) : Int):=dA_
 have q102 : (ji8) < (s0_0.length : Int):=dA_
 obtain ⟨ad102,e102,hx102_0⟩:=Kd.at_int HSz16_0 (ji8) p102 q102
 cases e102
 have hn102_0 : ad102.block ≠ g:=Nat.ne_of_lt (Nat.lt_of_lt_of_le (by have:=World.block_lt_of_cell? _ _ hx102_0;first | rwa [add_block] at this | exact this) (IsS117.ge HI0.out))
 replace hx102_0:=pw_cell_below HB.out hx102_0
 replace hx102_0:=(cell_far (p:=⟨g,1,none⟩) (by first | (rw [add_block];exact hn102_0) | (show (Addr.add _ _).block ≠ _;rw [add_block];exact hn102_0) | exact hn102_0) (.int .i64 (wrap64 (s0_1 + 1)))).trans hx102_0
 (try have hy102_0:=fun (n_ : Nat) => (show (((w.drewN n_).setCell ⟨g,1,none⟩ (.int .i64 (wrap64 (s0_1 + 1))))).cell? _ = some _ from hx102_0))
 clear hn102_0
 replace p102:=eq_true p102
 replace q102:=eq_true q102
 have p103 : 0 ≤ ((ji12) : Int):=dA_
 have q103 : (ji12) < (s0_0.length : Int):=dA_
 obtain ⟨ad103,e103,hx103_0⟩:=Kd.at_int HSz16_0 (ji12) p103 q103
 obtain rfl : ad102 = ad103:=(by injection e103)
 have hn103_0 : ad102.block ≠ g:=Nat.ne_of_lt (Nat.lt_of_lt_of_le (by have:=World.block_lt_of_cell? _ _ hx103_0;first | rwa [add_block] at this | exact this) (IsS117.ge HI0.out))
 replace hx103_0:=pw_cell_below HB.out hx103_0
 replace hx103_0:=(cell_far (p:=⟨g,1,none⟩) (by first | (rw [add_block];exact hn103_0) | (show (Addr.add _ _).block ≠ _;rw [add_block];exact hn103_0) | exact hn103_0) (.int .i64 (wrap64 (s0_1 + 1)))).trans hx103_0
 (try have hy103_0:=fun (n_ : Nat) => (show (((w.drewN n_).setCell ⟨g,1,none⟩ (.int .i64 (wrap64 (s0_1 + 1))))).cell? _ = some _ from hx103_0))
 clear hn103_0
 replace p103:=eq_true p103
 replace q103:=eq_true q103
 go_enter Try.func39,Try.ntmps39
 go_wp2
 repeat (go_quiet (fail);try go_wp2)
 go_ret
 exact ⟨by first | rfl | (simp [errW_none,errW_some] <;> rfl) | (simp only [← hji8,← hji12];first | rfl | (simp [errW_none,errW_some] <;> rfl)) | (simp [*,errW_none,errW_some] <;> rfl),by repeat (first | (with_reducible first | exact HI0.out | apply IsS117.alloc | apply IsS117.drewN | apply IsS117.drew | apply IsS117.set_1) | exact HI0.out),by repeat (first | (with_reducible first | exact HB.out | apply lA1_ | apply lN_ | apply lD_ | refine lS1_ ?_ (IsS117.ge HI0.out)) | exact HB.out),by repeat (first | (with_reducible first | exact HK.out | apply KeepBut.set_ | apply kN_ | apply kD_ | apply kA_) | exact HK.out)⟩
def spec_l1Pick.f (s0_0 : List Int) (s0_1 : Int) (l1 : List Int) : Option (Int × Int):=(spec_l1Next.f s0_0 s0_1 (l1.length : Int)).bind fun bt104 => (if 0 ≤ bt104.1 then (if bt104.1 < (l1.length : Int) then (some (rd l1 bt104.1,bt104.2)) else (none)) else (none))
set_option maxHeartbeats 8000000 in
set_option maxRecDepth 100000 in
theorem spec_l1Pick.calls (g : Nat) (s0_0 : List Int) (s0_1 : Int) (A1 : Option Addr) (c1 : Nat) (l1 : List Int) (r1 r2 : Int) (w0 w : World) (hI : IsS117 w0 w g s0_0 s0_1) (hB : Below w0.heap.size w0 w) (hr1 : Kd.C (Kd.int .i64) w A1 l1.length l1) (hc1 : l1.length ≤ c1) (hf1 : ∀ ad,A1 = some ad → 0 < l1.length → ad.block ≠ g) (h : spec_l1Pick.f s0_0 s0_1 l1 = some (r1,r2)) :
  Calls Try.prog 40 #[.pointer (some ⟨g,0,none⟩),.slice A1 l1.length c1] w fun e w' => e = .returned (.int .i64 r1) ∧ IsS117 w0 w' g s0_0 r2 ∧ Below w0.heap.size w0 w' ∧ KeepBut w w' g none:=by
 have HR1:=Z_ hr1
 have HC1:=Z_ hc1
 clear hr1 hc1
 have HI0:=Z_ hI
 have HK:=Z_ (KeepBut.refl w g none)
 have HL:=Z_ hB.size
 clear hI
 have HW0:=Z_ hB.size
 have HB:=Z_ hB
 clear hB
 unfold spec_l1Pick.f at h
 have H:=h
 clear h
 replace H:=bS_ H
 obtain ⟨⟨t104,t105⟩,A3,H⟩:=H
 try dsimp only at H
 replace H:=iM_ H
 obtain ⟨c4b0,H⟩:=H
 replace H:=iM_ H
 obtain ⟨c5b0,H⟩:=H
 simp only [Option.some.injEq,Prod.mk.injEq] at H
 obtain ⟨rfl,rfl⟩:=H
 go_enter Try.func40,Try.ntmps40
 go_wp2_with (first | ((with_reducible refine gate_callee (f:=39) rfl ?_);refine goesA_ (some 9) rfl rfl Try.func39 (by kernel_rfl) rfl #[.pointer (some ⟨g,0,none⟩),.int .i64 (l1.length : Int)] rfl ?_;(with_reducible refine (spec_l1Next.calls g s0_0 s0_1 (l1.length : Int) t104 t105 w0 _ ?side1 ?side2 A3.out).mono ?_);(case side1 => repeat (first | (with_reducible first | exact HI0.out | apply IsS117.set_1) | exact HI0.out));(case side2 => repeat (first | (with_reducible first | exact HB.out | refine lS1_ ?_ (IsS117.ge HI0.out)) | exact HB.out));rintro e w6 ⟨rfl,hi,hb,hk⟩;refine ⟨_,rfl,?_⟩;replace HK:=Z_ (KeepBut.trans (by repeat (first | (with_reducible first | exact HK.out | apply KeepBut.set_) | exact HK.out)) hk (.inl rfl));replace HB:=Z_ (hb);replace HI0:=Z_ (hi);(try clear hb);(try clear hk);(try clear hi);have p106 : 0 ≤ (t104 : Int):=dA_;have q106 : t104 < (l1.length : Int):=dA_;obtain ⟨ad106,e106,hx106_0⟩:=Kd.at_int HR1.out t104 p106 q106;cases e106;replace hx106_0:=keep_cell HK.out hx106_0 (by first | (rw [add_block];exact hf1 _ rfl (by omega)) | exact hf1 _ rfl (by omega) | exact hf1 ad106 rfl (by omega));replace p106:=eq_true p106;replace q106:=eq_true q106))
 go_ret
 exact ⟨Er_,by repeat (first | (with_reducible first | exact HI0.out | apply IsS117.alloc | apply IsS117.drewN | apply IsS117.drew | apply IsS117.set_1) | exact HI0.out),by repeat (first | (with_reducible first | exact HB.out | apply lA1_ | apply lN_ | apply lD_ | refine lS1_ ?_ (IsS117.ge HI0.out)) | exact HB.out),by repeat (first | (with_reducible first | exact HK.out | apply KeepBut.set_ | apply kN_ | apply kD_ | apply kA_) | exact HK.out)⟩
def spec_l1Max.f (a0 a1 : Int) : Option (Int):=if a0 > a1 then (some a0) else (some a1)
set_option maxHeartbeats 8000000 in
set_option maxRecDepth 100000 in
theorem spec_l1Max.calls (a0 a1 r : Int) (w : World) (h : spec_l1Max.f a0 a1 = some r) :
  Calls Try.prog 37 #[.int .i64 a0,.int .i64 a1] w fun e w' => e = .returned (.int .i64 r) ∧ Drawn0 w w':=by
 unfold spec_l1Max.f at h
 have H:=h
 clear h
 replace H:=iD_ H
 obtain ⟨c3b0,H⟩ | ⟨c3b0,H⟩:=H
 rotate_left
 focus replace c3b0 : decide (a1 < a0) = false:=c3b0
 rotate_right
 replace c3b0 : decide (a1 < a0) = true:=c3b0
 all_goals
  obtain rfl:=Option.some.inj H
  go_enter Try.func37,Try.ntmps37
  go_wp2
  go_ret
  exact ⟨by first | rfl | (simp;done) | (simp [*];done),by repeat (first | exact Drawn0.refl _ | apply Drawn0.step)⟩
def spec_l5Kids.j0 : Nat → Int → Bool → Option (Int)
 | 0,_,_ => none
 | k + 1,x3,x4 => if x4 = true then (some 2) else (if x3 = 6 then (some 1) else (some 0))
def spec_l5Kids.f (k : Nat) (a0 : Int) : Option (Int):=if a0 = 3 then (spec_l5Kids.j0 k a0 (a0 == 3)) else (if a0 = 4 then (spec_l5Kids.j0 k a0 (a0 == 4)) else (if a0 = 5 then (spec_l5Kids.j0 k a0 (a0 == 5)) else (spec_l5Kids.j0 k a0 (a0 == 7))))
set_option maxHeartbeats 8000000 in
set_option maxRecDepth 100000 in
theorem spec_l5Kids.calls (k : Nat) (a0 r : Int) (w : World) (h : spec_l5Kids.f k a0 = some r) :
  Calls Try.prog 101 #[.int .i64 a0] w fun e w' => e = .returned (.int .i64 r) ∧ Drawn0 w w':=by
 unfold spec_l5Kids.f at h
 have H:=h
 clear h
 have HC2:=Z_ H
 clear H
 go_enter Try.func101,Try.ntmps101
 go_upto_if 4 with (fail)
 go_cut [4] (fun v4 wc => ∃ (kq : Nat) (x4_1 : Bool),v4 = .bool x4_1 ∧ Aside0 (spec_l5Kids.j0 kq a0 x4_1 = some r) ∧ Aside0 (kq ≤ k) ∧ Drawn0 w wc)
 case first =>
  have H:=HC2.out
  clear HC2
  replace H:=iE_ H
  obtain ⟨c3b0,c3b1,H⟩ | ⟨c3b0,c3b1,H⟩:=H
  focus (first | rw [c3b0] | (simp only [i64_w,i32_w];rw [c3b0]) | skip)
  rotate_left
  (first | rw [c3b0] | (simp only [i64_w,i32_w];rw [c3b0]) | skip)
  replace H:=iE_ H
  obtain ⟨c4b0,c4b1,H⟩ | ⟨c4b0,c4b1,H⟩:=H
  rotate_left
  replace H:=iE_ H
  obtain ⟨c5b0,c5b1,H⟩ | ⟨c5b0,c5b1,H⟩:=H
  all_goals
   have H':=Z_ H
   clear H
   go_wp2
   go_meet
   case rel => exact ⟨_,_,Sr_,H',Ol_,by repeat (first | exact Drawn0.refl _ | apply Drawn0.step)⟩
 case rest =>
  clear HC2
  try clear c1
  try clear p2
  try clear c3
  try clear c3b0
  try clear c3b1
  try clear c4
  try clear c4b0
  try clear c4b1
  try clear c5
  try clear c5b0
  try clear c5b1
  obtain ⟨kq,x4_1,rfl,HA,HJ1,⟨mc1,rfl⟩⟩:=hcut
  cases kq with
  | zero => exact absurd HA.out (by simp [spec_l5Kids.j0])
  | succ kj1 =>
   have H:=HA.out
   clear HA
   simp only [spec_l5Kids.j0] at H
   replace H:=iB_ H
   obtain ⟨rfl,H⟩ | ⟨rfl,H⟩:=H
   rotate_left
   replace H:=iE_ H
   obtain ⟨c7b0,c7b1,H⟩ | ⟨c7b0,c7b1,H⟩:=H
   all_goals
    obtain rfl:=Option.some.inj H
    go_wp2
    go_ret
    exact ⟨by first | rfl | (simp;done) | (simp [*];done),by repeat (first | exact Drawn0.refl _ | apply Drawn0.step)⟩
def spec_l5Copy.f (l0 : List (S36)) : Option ((List (S36))):=(some (([] : List (S36)) : List (S36))).bind fun y107 => (if y107.length + l0.length < 4398046511104 then (some (y107 ++ l0)) else (none))
set_option maxHeartbeats 8000000 in
set_option maxRecDepth 100000 in
theorem spec_l5Copy.calls (A0 : Option Addr) (c0 : Nat) (l0 r : List (S36)) (w : World) (hr0 : Kd.C k36 w A0 l0.length l0) (hc0 : l0.length ≤ c0) (h : spec_l5Copy.f l0 = some r) :
  Calls Try.prog 46 #[.slice A0 l0.length c0] w fun e w' => ∃ v0_ : Value,e = .returned (v0_) ∧ Kd.R k36 36 w' w.heap.size (fun _ => True) v0_ r ∧ Below w.heap.size w w':=by
 have HR0:=Z_ hr0
 have HC0:=Z_ hc0
 clear hr0 hc0
 have HB:=Z_ (Below.refl w.heap.size w)
 unfold spec_l5Copy.f at h
 have H:=h
 clear h
 obtain ⟨y107,hy107⟩ : ∃ y_ : List (S36),y_ = (([] : List (S36))):=⟨_,rfl⟩
 replace H : (if y107.length + l0.length < 4398046511104 then (some (y107 ++ l0)) else (none)) = some r:=by first | (rw [hy107];with_reducible exact H) | (have H2_:=(Option.bind_some _ _).symm.trans H;rw [hy107];with_reducible exact H2_) | (have H2_:=(Option.bind_some _ _).symm.trans H;with_reducible exact H2_) | with_reducible exact H | (rw [hy107];exact H) | exact H
 have Ny107:=Z_ hy107
 clear hy107
 replace H:=iN_ H
 obtain ⟨c2,H⟩:=H
 have LMc2:=Z_ c2
 clear c2
 obtain ⟨y110,hy110⟩ : ∃ y_ : List (S36),y_ = (y107 ++ l0):=⟨_,rfl⟩
 replace H : (some y110) = some r:=by first | (rw [hy110];with_reducible exact H) | (have H2_:=(Option.bind_some _ _).symm.trans H;rw [hy110];with_reducible exact H2_) | (have H2_:=(Option.bind_some _ _).symm.trans H;with_reducible exact H2_) | with_reducible exact H | (rw [hy110];exact H) | exact H
 have Ny110:=Z_ hy110
 clear hy110
 obtain rfl:=Option.some.inj H
 go_enter Try.func46,Try.ntmps46
 go_wp2_with (first | ((with_reducible refine gD_ 3 rfl ?_);refine Kd.R_lit k36 _ 36 ?hg (N:=3) ?hd (xs:=([] : List (S36))) (inner:=[]) (ok:=fun _ => True) (okp:=fun _ => True) ?hr ?hp (fun _ hk => hk) trivial (Below.refl _ _) (Nat.le_refl _) (by simp) ?_;(case hd => rfl);(case hg => rfl);(case hr => first | (go_simp;done) | (go_simp;rfl));(case hp => exact (Reps.none _ _));intro v108 w3 ho4 hb hg_ hnew_;clear hg_ hnew_;(first | rw [← Ny107.out] at ho4 | (simp only [Int.reduceToNat] at ho4;rw [← Ny107.out] at ho4));have HO109:=Z_ (Kd.R_lower ho4 (below_size HB.out));replace HB:=Z_ (lP_ HB.out hb);clear hb ho4) | ((with_reducible refine gate_builtin (b:=.append) (xs:=#[.tmp 3,.tmp 4]) rfl ?_);at_builtin;refine Kd.R_append_rows k36 (w0:=w) w.heap.size rfl (.tmp 3) (.tmp 4) 24 36 (.agg #[(.int .i64 0),(.int .i64 0),(.int .i64 0),(.int .i64 0)]) 32 rfl Try.underlying24 info36 rfl (by decide) (by omega) v108 y107 l0 _ _ _ (fun _ => True) (fun _ => False) rfl rfl ?aO ?aR (fun _ _ h => h) (fun _ h => h.elim) ?aF ?aB ?aS ?aL ?_;(case aR => exact Cb_ HR0);(case aB => exact HB.out);(case aF => exact (fun _ _ => trivial));(case aO => exact HO109.out);(case aS => exact (below_size HB.out));(case aL => have:=LMc2.out;omega);intro v111 w5 ho hb hg hat;rw [← Ny110.out] at ho;replace HB:=Z_ (hb);have HO112:=Z_ (ho);clear HO109 ho hb hg hat))
 go_ret
 exact ⟨_,Er_,Rk_ HO112,Lb_⟩
def spec_l1In.f (a0 a1 a2 : Int) : Option (Bool):=if a0 ≥ a1 then (some (decide (a0 ≤ a2))) else (some false)
set_option maxHeartbeats 8000000 in
set_option maxRecDepth 100000 in
theorem spec_l1In.calls (a0 a1 a2 : Int) (r : Bool) (w : World) (h : spec_l1In.f a0 a1 a2 = some r) :
  Calls Try.prog 84 #[.int .i64 a0,.int .i64 a1,.int .i64 a2] w fun e w' => e = .returned (.bool r) ∧ Drawn0 w w':=by
 unfold spec_l1In.f at h
 have H:=h
 clear h
 replace H:=iD_ H
 obtain ⟨c4b0,H⟩ | ⟨c4b0,H⟩:=H
 rotate_left
 focus replace c4b0 : decide (a1 ≤ a0) = false:=c4b0
 rotate_right
 replace c4b0 : decide (a1 ≤ a0) = true:=c4b0
 all_goals
  obtain rfl:=Option.some.inj H
  go_enter Try.func84,Try.ntmps84
  go_wp2
  go_ret
  exact ⟨by first | rfl | (simp;done) | (simp [*];done),by repeat (first | exact Drawn0.refl _ | apply Drawn0.step)⟩
mutual
def spec_l5Term.j0 : Nat → List (S36) → Int → Bool → Int → Int → Int → Int → Option (Int)
 | 0,_,_,_,_,_,_,_ => none
 | k + 1,x0,x5,x38,x114000,x114001,x114002,x114003 => if x38 = true then (some 1) else ((spec_l1In.f x114003 0 9999).bind fun t116 => (if t116 = true then (if x5 > 0 then ((spec_l1In.f x114001 0 (wrap64 ((x0.length : Int) - 1))).bind fun t117 => (if t117 = true then (if x5 > 1 then ((spec_l1In.f x114002 0 (wrap64 ((x0.length : Int) - 1))).bind fun t118 => (spec_l5Term.j1 k x0 x5 (!t118) x114000 x114001 x114002 x114003)) else (spec_l5Term.j1 k x0 x5 false x114000 x114001 x114002 x114003)) else (spec_l5Term.j1 k x0 x5 true x114000 x114001 x114002 x114003))) else (if x5 > 1 then ((spec_l1In.f x114002 0 (wrap64 ((x0.length : Int) - 1))).bind fun t119 => (spec_l5Term.j1 k x0 x5 (!t119) x114000 x114001 x114002 x114003)) else (spec_l5Term.j1 k x0 x5 false x114000 x114001 x114002 x114003))) else (spec_l5Term.j1 k x0 x5 true x114000 x114001 x114002 x114003)))
def spec_l5Term.j1 : Nat → List (S36) → Int → Bool → Int → Int → Int → Int → Option (Int)
 | 0,_,_,_,_,_,_,_ => none
 | k + 1,x0,x5,x68,x114000,x114001,x114002,x114003 => if x68 = true then (some 3) else (if x114000 = 6 then (spec_l5Term.j2 k x0 x5 true x114000 x114001 x114002 x114003) else (spec_l5Term.j2 k x0 x5 (x114000 == 7) x114000 x114001 x114002 x114003))
def spec_l5Term.j2 : Nat → List (S36) → Int → Bool → Int → Int → Int → Int → Option (Int)
 | 0,_,_,_,_,_,_,_ => none
 | k + 1,x0,x5,x76,x114000,x114001,x114002,x114003 => if x76 = true then (if 0 ≤ x114001 then (if x114001 < (x0.length : Int) then (if ((rd_T36 x0 x114001).f0) = 2 then (if x5 > 1 then (if 0 ≤ x114002 then (if x114002 < (x0.length : Int) then (if ((rd_T36 x0 x114002).f0) = 2 then (if x114001 > x114002 then (some 1) else (some 0)) else (some 1)) else (none)) else (none)) else (some 0)) else (some 1)) else (none)) else (none)) else (some 0)
end
def spec_l5Term.f (k : Nat) (l0 : List (S36)) (a1_0 a1_1 a1_2 a1_3 : Int) : Option (Int):=(spec_l1In.f a1_0 1 7).bind fun t114 => (if t114 = true then ((spec_l5Kids.f k a1_0).bind fun t115 => (if t115 > 0 then (if a1_3 = 0 then (if t115 < 1 then (if a1_1 = 0 then (if t115 < 2 then (spec_l5Term.j0 k l0 t115 (a1_2 != 0) a1_0 a1_1 a1_2 a1_3) else (spec_l5Term.j0 k l0 t115 false a1_0 a1_1 a1_2 a1_3)) else (spec_l5Term.j0 k l0 t115 true a1_0 a1_1 a1_2 a1_3)) else (if t115 < 2 then (spec_l5Term.j0 k l0 t115 (a1_2 != 0) a1_0 a1_1 a1_2 a1_3) else (spec_l5Term.j0 k l0 t115 false a1_0 a1_1 a1_2 a1_3))) else (spec_l5Term.j0 k l0 t115 true a1_0 a1_1 a1_2 a1_3)) else (if t115 < 1 then (if a1_1 = 0 then (if t115 < 2 then (spec_l5Term.j0 k l0 t115 (a1_2 != 0) a1_0 a1_1 a1_2 a1_3) else (spec_l5Term.j0 k l0 t115 false a1_0 a1_1 a1_2 a1_3)) else (spec_l5Term.j0 k l0 t115 true a1_0 a1_1 a1_2 a1_3)) else (if t115 < 2 then (spec_l5Term.j0 k l0 t115 (a1_2 != 0) a1_0 a1_1 a1_2 a1_3) else (spec_l5Term.j0 k l0 t115 false a1_0 a1_1 a1_2 a1_3))))) else (some 5))
set_option maxHeartbeats 8000000 in
set_option maxRecDepth 100000 in
theorem spec_l5Term.calls (k : Nat) (A0 : Option Addr) (c0 : Nat) (l0 : List (S36)) (a1_0 a1_1 a1_2 a1_3 r : Int) (w : World) (hr0 : Kd.C k36 w A0 l0.length l0) (hc0 : l0.length ≤ c0) (h : spec_l5Term.f k l0 a1_0 a1_1 a1_2 a1_3 = some r) :
  Calls Try.prog 95 #[.slice A0 l0.length c0,.agg #[.int .i64 a1_0,.int .i64 a1_1,.int .i64 a1_2,.int .i64 a1_3]] w fun e w' => e = .returned (.int .i64 r) ∧ Below w.heap.size w w':=by
 have hu36:=Try.underlying36
 have a3:=Z_ hr0
 have ai:=Z_ hc0
 clear hr0 hc0
 have HB:=Z_ (Below.refl w.heap.size w)
 unfold spec_l5Term.f at h
 have H:=h
 clear h
 replace H:=bS_ H
 obtain ⟨t114,A3,H⟩:=H
 replace H:=iB_ H
 obtain ⟨rfl,H⟩ | ⟨rfl,H⟩:=H
 rotate_left
 ·obtain rfl:=Option.some.inj H
  go_enter Try.func95,Try.ntmps95
  go_wp2_with (first | ((with_reducible refine gD_ 3 rfl ?_);refine bx_ #[.int .i64 a1_0,.int .i64 a1_1,.int .i64 a1_2,.int .i64 a1_3] 36 ?_;intro a2 hg w65 hbox hb;have a0:=Z_ hbox;have a1:=Z_ ((by rw [hg];exact (below_size Lb_) : w.heap.size ≤ a2));replace HB:=Z_ (lP_ Lb_ hb);clear hb hbox hg;obtain ⟨_,_,_,_,_,_,_,_⟩:=bc4 a0.out) | ((with_reducible refine gate_callee (f:=84) rfl ?_);refine goesA_ (some 9) rfl rfl Try.func84 (by kernel_rfl) rfl #[.int .i64 a1_0,.int .i64 1,.int .i64 7] rfl ?_;(with_reducible refine (spec_l1In.calls a1_0 1 7 false _ A3.out).mono ?_);rintro e w' ⟨rfl,⟨nd,rfl⟩⟩;refine ⟨_,rfl,?_⟩))
  go_ret
  exact ⟨Er_,Lb_⟩
 rotate_right
 replace H:=bS_ H
 obtain ⟨t115,A5,H⟩:=H
 have a7:=Z_ H
 clear H
 go_enter Try.func95,Try.ntmps95
 go_upto_region 4 with (first | ((with_reducible refine gD_ 3 rfl ?_);refine bx_ #[.int .i64 a1_0,.int .i64 a1_1,.int .i64 a1_2,.int .i64 a1_3] 36 ?_;intro a2 hg w7 hbox hb;have a0:=Z_ hbox;have ah:=Z_ ((by rw [hg];exact (below_size Lb_) : w.heap.size ≤ a2));have a1:=Z_ ((by rw [hg];exact (below_size Lb_) : w.heap.size ≤ a2));replace HB:=Z_ (lP_ Lb_ hb);clear hb hbox hg;obtain ⟨_,_,_,_,_,_,_,_⟩:=bc4 a0.out) | ((with_reducible refine gate_callee (f:=84) rfl ?_);refine goesA_ (some 9) rfl rfl Try.func84 (by kernel_rfl) rfl #[.int .i64 a1_0,.int .i64 1,.int .i64 7] rfl ?_;(with_reducible refine (spec_l1In.calls a1_0 1 7 true _ A3.out).mono ?_);rintro e w' ⟨rfl,⟨nd,rfl⟩⟩;refine ⟨_,rfl,?_⟩) | ((with_reducible refine gate_callee (f:=101) rfl ?_);refine goesA_ (some 13) rfl rfl Try.func101 (by kernel_rfl) rfl #[.int .i64 a1_0] rfl ?_;(with_reducible refine (spec_l5Kids.calls k a1_0 t115 _ A5.out).mono ?_);rintro e w' ⟨rfl,⟨nd,rfl⟩⟩;refine ⟨_,rfl,?_⟩))
 (try simp only [Act.put,lA_,lZ_,lS_])
 go_cut [38] (fun v38 wc => ∃ (kq : Nat) (x38_5 : Bool),v38 = .bool x38_5 ∧ Aside0 (spec_l5Term.j0 kq l0 t115 x38_5 a1_0 a1_1 a1_2 a1_3 = some r) ∧ Aside0 (kq ≤ k) ∧ Aside0 (wc.heap[a2]? = some (.cells #[.int .i64 a1_0,.int .i64 a1_1,.int .i64 a1_2,.int .i64 a1_3] 36 (0,0))) ∧ Aside0 (Below w.heap.size w wc))
 case first =>
  have H:=a7.out
  clear a7
  replace H:=iD_ H
  obtain ⟨c9b0,H⟩ | ⟨c9b0,H⟩:=H
  rotate_left
  focus
   replace c9b0 : decide (0 < t115) = false:=c9b0
   (first | rw [c9b0] | (simp only [i64_w,i32_w];rw [c9b0]) | skip)
   replace H:=iD_ H
   obtain ⟨c21b0,H⟩ | ⟨c21b0,H⟩:=H
   rotate_left
   focus
    replace H:=iD_ H
    obtain ⟨c27b0,H⟩ | ⟨c27b0,H⟩:=H
   rotate_right
   replace H:=iE_ H
   obtain ⟨c22b0,c22b1,H⟩ | ⟨c22b0,c22b1,H⟩:=H
   replace H:=iD_ H
   obtain ⟨c23b0,H⟩ | ⟨c23b0,H⟩:=H
  rotate_right
  replace c9b0 : decide (0 < t115) = true:=c9b0
  (first | rw [c9b0] | (simp only [i64_w,i32_w];rw [c9b0]) | skip)
  replace H:=iE_ H
  obtain ⟨c10b0,c10b1,H⟩ | ⟨c10b0,c10b1,H⟩:=H
  replace H:=iD_ H
  obtain ⟨c11b0,H⟩ | ⟨c11b0,H⟩:=H
  rotate_left
  focus
   replace H:=iD_ H
   obtain ⟨c17b0,H⟩ | ⟨c17b0,H⟩:=H
  rotate_right
  replace H:=iE_ H
  obtain ⟨c12b0,c12b1,H⟩ | ⟨c12b0,c12b1,H⟩:=H
  replace H:=iD_ H
  obtain ⟨c13b0,H⟩ | ⟨c13b0,H⟩:=H
  all_goals
   have H':=Z_ H
   clear H
   try obtain ⟨_,_,_,_,_,_,_,_⟩:=bc4 a0.out
   go_wp2
   go_meet
   case rel => exact ⟨_,_,Sr_,H',Ol_,⟨Bk_ a0⟩,⟨Lb_⟩⟩
 case rest =>
  clear a7
  try clear c1
  try clear c2
  try clear p2
  try clear c4
  try clear c8
  try clear c9
  try clear c9b0
  try clear c10
  try clear c10b0
  try clear c10b1
  try clear c11
  try clear c11b0
  try clear c12
  try clear c12b0
  try clear c12b1
  try clear c13
  try clear c13b0
  try clear c17
  try clear c17b0
  try clear c21
  try clear c21b0
  try clear c22
  try clear c22b0
  try clear c22b1
  try clear c23
  try clear c23b0
  try clear c27
  try clear c27b0
  obtain ⟨kq,x38_5,rfl,HA,HJ5,a0,HB⟩:=hcut
  cases kq with
  | zero => exact absurd HA.out (by simp [spec_l5Term.j0])
  | succ kj5 =>
   have H:=HA.out
   clear HA
   simp only [spec_l5Term.j0] at H
   replace H:=iB_ H
   obtain ⟨rfl,H⟩ | ⟨rfl,H⟩:=H
   ·obtain rfl:=Option.some.inj H
    go_wp2
    go_ret
    exact ⟨Er_,Lb_⟩
   have a5:=Z_ H
   clear H
   go_upto_region 7 with (fail)
   go_cut [68] (fun v68 wc => ∃ (kq : Nat) (x68_29 : Bool),v68 = .bool x68_29 ∧ Aside0 (spec_l5Term.j1 kq l0 t115 x68_29 a1_0 a1_1 a1_2 a1_3 = some r) ∧ Aside0 (kq ≤ kj5) ∧ Aside0 (wc.heap[a2]? = some (.cells #[.int .i64 a1_0,.int .i64 a1_1,.int .i64 a1_2,.int .i64 a1_3] 36 (0,0))) ∧ Aside0 (Below w.heap.size w wc))
   case first =>
    have H:=a5.out
    clear a5
    replace H:=bS_ H
    obtain ⟨t116,a4,H⟩:=H
    replace H:=iB_ H
    obtain ⟨rfl,H⟩ | ⟨rfl,H⟩:=H
    replace H:=iD_ H
    obtain ⟨c33b0,H⟩ | ⟨c33b0,H⟩:=H
    rotate_left
    focus
     replace c33b0 : decide (0 < t115) = false:=c33b0
     (first | rw [c33b0] | (simp only [i64_w,i32_w];rw [c33b0]) | skip)
     replace H:=iD_ H
     obtain ⟨c41b0,H⟩ | ⟨c41b0,H⟩:=H
     rotate_left
     focus replace c41b0 : decide (1 < t115) = false:=c41b0
     rotate_right
     replace c41b0 : decide (1 < t115) = true:=c41b0
     replace H:=bS_ H
     obtain ⟨t119,ag,H⟩:=H
    rotate_right
    replace c33b0 : decide (0 < t115) = true:=c33b0
    (first | rw [c33b0] | (simp only [i64_w,i32_w];rw [c33b0]) | skip)
    replace H:=bS_ H
    obtain ⟨t117,aa,H⟩:=H
    replace H:=iB_ H
    obtain ⟨rfl,H⟩ | ⟨rfl,H⟩:=H
    replace H:=iD_ H
    obtain ⟨c36b0,H⟩ | ⟨c36b0,H⟩:=H
    rotate_left
    focus replace c36b0 : decide (1 < t115) = false:=c36b0
    rotate_right
    replace c36b0 : decide (1 < t115) = true:=c36b0
    replace H:=bS_ H
    obtain ⟨t118,af,H⟩:=H
    all_goals
     have H':=Z_ H
     clear H
     obtain ⟨_,_,_,_,_,_,_,_⟩:=bc4 a0.out
     go_wp2_with (first | ((with_reducible refine gate_callee (f:=84) rfl ?_);refine goesA_ (some 43) rfl rfl Try.func84 (by kernel_rfl) rfl #[.int .i64 a1_3,.int .i64 0,.int .i64 9999] rfl ?_;(with_reducible refine (spec_l1In.calls a1_3 0 9999 _ _ a4.out).mono ?_);rintro e w' ⟨rfl,⟨nd,rfl⟩⟩;refine ⟨_,rfl,?_⟩) | (go_at_call 84;(with_reducible refine (spec_l1In.calls a1_1 0 (wrap64 ((l0.length : Int) - 1)) _ _ aa.out).mono ?_);rintro e w' ⟨rfl,⟨nd,rfl⟩⟩) | (go_at_call 84;(with_reducible refine (spec_l1In.calls a1_2 0 (wrap64 ((l0.length : Int) - 1)) t118 _ af.out).mono ?_);rintro e w' ⟨rfl,⟨nd,rfl⟩⟩) | (go_at_call 84;(with_reducible refine (spec_l1In.calls a1_2 0 (wrap64 ((l0.length : Int) - 1)) t119 _ ag.out).mono ?_);rintro e w' ⟨rfl,⟨nd,rfl⟩⟩))
     go_meet
     case rel => exact ⟨_,_,Sr_,H',⟨by have:=HJ5.out;first | omega | exact Nat.le_refl _⟩,⟨Bk_ a0⟩,⟨Lb_⟩⟩
   case rest =>
    clear a5
    try clear c1
    try clear c2
    try clear p2
    try clear c3
    try clear c4
    try clear p6
    try clear c8
    try clear c9
    try clear c9b0
    try clear c10
    try clear c10b0
    try clear c10b1
    try clear c11
    try clear c11b0
    try clear c12
    try clear c12b0
    try clear c12b1
    try clear c13
    try clear c13b0
    try clear c17
    try clear c17b0
    try clear c21
    try clear c21b0
    try clear c22
    try clear c22b0
    try clear c22b1
    try clear c23
    try clear c23b0
    try clear c27
    try clear c27b0
    try clear c29
    try clear c32
    try clear c33
    try clear c33b0
    try clear c35
    try clear c36
    try clear c36b0
    try clear c41
    try clear c41b0
    try clear p2
    obtain ⟨kq,x68_29,rfl,HA,HJ29,a0,HB⟩:=hcut
    cases kq with
    | zero => exact absurd HA.out (by simp [spec_l5Term.j1])
    | succ kj29 =>
     have H:=HA.out
     clear HA
     simp only [spec_l5Term.j1] at H
     replace H:=iB_ H
     obtain ⟨rfl,H⟩ | ⟨rfl,H⟩:=H
     ·obtain rfl:=Option.some.inj H
      go_wp2
      go_ret
      exact ⟨Er_,Lb_⟩
     have a6:=Z_ H
     clear H
     go_upto_region 9 with (fail)
     go_cut [76] (fun v76 wc => ∃ (kq : Nat) (x76_46 : Bool),v76 = .bool x76_46 ∧ Aside0 (spec_l5Term.j2 kq l0 t115 x76_46 a1_0 a1_1 a1_2 a1_3 = some r) ∧ Aside0 (kq ≤ kj29) ∧ Aside0 (wc.heap[a2]? = some (.cells #[.int .i64 a1_0,.int .i64 a1_1,.int .i64 a1_2,.int .i64 a1_3] 36 (0,0))) ∧ Aside0 (Below w.heap.size w wc))
     case first =>
      have H:=a6.out
      clear a6
      replace H:=iE_ H
      obtain ⟨c48b0,c48b1,H⟩ | ⟨c48b0,c48b1,H⟩:=H
      all_goals
       (first | rw [c48b0] | (simp only [i64_w,i32_w];rw [c48b0]) | skip)
       have H':=Z_ H
       clear H
       obtain ⟨_,_,_,_,_,_,_,_⟩:=bc4 a0.out
       go_wp2
       go_meet
       case rel => exact ⟨_,_,Sr_,H',⟨by have:=HJ5.out;have:=HJ29.out;first | omega | exact Nat.le_refl _⟩,⟨Bk_ a0⟩,⟨Lb_⟩⟩
     case rest =>
      clear a6
      try clear c1
      try clear c2
      try clear p2
      try clear c3
      try clear c4
      try clear p6
      try clear c8
      try clear c9
      try clear c9b0
      try clear c10
      try clear c10b0
      try clear c10b1
      try clear c11
      try clear c11b0
      try clear c12
      try clear c12b0
      try clear c12b1
      try clear c13
      try clear c13b0
      try clear c17
      try clear c17b0
      try clear c21
      try clear c21b0
      try clear c22
      try clear c22b0
      try clear c22b1
      try clear c23
      try clear c23b0
      try clear c27
      try clear c27b0
      try clear c29
      try clear c32
      try clear c33
      try clear c33b0
      try clear c35
      try clear c36
      try clear c36b0
      try clear c41
      try clear c41b0
      try clear c46
      try clear c48
      try clear c48b0
      try clear c48b1
      try clear p2
      try clear p6
      obtain ⟨kq,x76_46,rfl,HA,HJ46,a0,HB⟩:=hcut
      cases kq with
      | zero => exact absurd HA.out (by simp [spec_l5Term.j2])
      | succ kj46 =>
       have H:=HA.out
       clear HA
       simp only [spec_l5Term.j2] at H
       replace H:=iB_ H
       obtain ⟨rfl,H⟩ | ⟨rfl,H⟩:=H
       rotate_left
       ·obtain rfl:=Option.some.inj H
        go_wp2
        go_ret
        exact ⟨Er_,Lb_⟩
       rotate_right
       replace H:=iM_ H
       obtain ⟨c52b0,H⟩:=H
       replace H:=iM_ H
       obtain ⟨c53b0,H⟩:=H
       replace H:=iE_ H
       obtain ⟨c54b0,c54b1,H⟩ | ⟨c54b0,c54b1,H⟩:=H
       rotate_left
       focus have g1_:=trivial
       rotate_right
       replace H:=iD_ H
       obtain ⟨c55b0,H⟩ | ⟨c55b0,H⟩:=H
       rotate_left
       focus
        replace c55b0 : decide (1 < t115) = false:=c55b0
        have g1_:=trivial
       rotate_right
       replace c55b0 : decide (1 < t115) = true:=c55b0
       replace H:=iM_ H
       obtain ⟨c56b0,H⟩:=H
       replace H:=iM_ H
       obtain ⟨c57b0,H⟩:=H
       replace H:=iE_ H
       obtain ⟨c58b0,c58b1,H⟩ | ⟨c58b0,c58b1,H⟩:=H
       rotate_left
       focus have g0_:=trivial
       rotate_right
       replace H:=iD_ H
       obtain ⟨c59b0,H⟩ | ⟨c59b0,H⟩:=H
       rotate_left
       focus
        replace c59b0 : decide (a1_2 < a1_1) = false:=c59b0
        have g0_:=trivial
       rotate_right
       replace c59b0 : decide (a1_2 < a1_1) = true:=c59b0
       have g0_:=trivial
       all_goals first
       | (clear g0_
          obtain rfl:=Option.some.inj H
          obtain ⟨_,_,_,_,_,_,_,_⟩:=bc4 a0.out
          have p120 : 0 ≤ (a1_1 : Int):=dA_
          have q120 : a1_1 < (l0.length : Int):=dA_
          obtain ⟨ad120,e120,hx120_0,hx120_1,hx120_2,hx120_3⟩:=at_T36 a3.out a1_1 p120 q120
          cases e120
          replace hx120_0:=cB_ HB hx120_0
          replace hx120_1:=cB_ HB hx120_1
          replace hx120_2:=cB_ HB hx120_2
          replace hx120_3:=cB_ HB hx120_3
          replace p120:=eq_true p120
          replace q120:=eq_true q120
          have p121 : 0 ≤ (a1_2 : Int):=dA_
          have q121 : a1_2 < (l0.length : Int):=dA_
          obtain ⟨ad121,e121,hx121_0,hx121_1,hx121_2,hx121_3⟩:=at_T36 a3.out a1_2 p121 q121
          obtain rfl : ad120 = ad121:=(by injection e121)
          replace hx121_0:=cB_ HB hx121_0
          replace hx121_1:=cB_ HB hx121_1
          replace hx121_2:=cB_ HB hx121_2
          replace hx121_3:=cB_ HB hx121_3
          replace p121:=eq_true p121
          replace q121:=eq_true q121
          go_wp2
          go_ret
          exact ⟨Er_,Lb_⟩)
       | (clear g1_
          obtain rfl:=Option.some.inj H
          obtain ⟨_,_,_,_,_,_,_,_⟩:=bc4 a0.out
          have p120 : 0 ≤ (a1_1 : Int):=dA_
          have q120 : a1_1 < (l0.length : Int):=dA_
          obtain ⟨ad120,e120,hx120_0,hx120_1,hx120_2,hx120_3⟩:=at_T36 a3.out a1_1 p120 q120
          cases e120
          replace hx120_0:=cB_ HB hx120_0
          replace hx120_1:=cB_ HB hx120_1
          replace hx120_2:=cB_ HB hx120_2
          replace hx120_3:=cB_ HB hx120_3
          replace p120:=eq_true p120
          replace q120:=eq_true q120
          go_wp2
          go_ret
          exact ⟨Er_,Lb_⟩)
theorem eqA36 (d : Nat) (w : World) (x0 y0 x1 y1 x2 y2 x3 y3 : Int) :
    (Op.equalIn (d + 2) 36 (.agg #[.int .i64 x0,.int .i64 x1,.int .i64 x2,.int .i64 x3]) (.agg #[.int .i64 y0,.int .i64 y1,.int .i64 y2,.int .i64 y3])).run Try.prog w = .ok (x0 == y0 && (x1 == y1 && (x2 == y2 && (x3 == y3)))) w:=by
  refine eqA_of Try.underlying36 (by kernel_rfl) ?_
  refine eqf_cons (by rfl) (by go_simp;rfl) (by go_simp;rfl) (by go_simp) ?_
  refine eqf_cons (by rfl) (by go_simp;rfl) (by go_simp;rfl) (by go_simp) ?_
  refine eqf_cons (by rfl) (by go_simp;rfl) (by go_simp;rfl) (by go_simp) ?_
  exact eqf_last (by rfl) (by go_simp;rfl) (by go_simp;rfl) (by go_simp)
end Go.Proofs.Ytpabeajjbifjdaa.G
namespace Go.Proofs.Ytpabeajjbifjdaa.G
open Go.RowKit Go.Proofs.YtpabeajjbifjdaaW.PrintWords Go.Proofs.YtpabeajjbifjdaaW.PrintLast Go.Proofs.YtpabeajjbifjdaaW.PrintMore
attribute [local go_sem] max2_int min2_int max_two min_two max_three min_three max_four min_four   -- for this text's walks alone
set_option linter.unusedVariables false
set_option linter.unusedSimpArgs false
attribute [local go_sem high] eqA36
def spec_l5Find.l0 : Nat → List (S36) → Int → Int → Int → Int → Int → Option (Int)
 | 0,_,_,_,_,_,_ => none
 | k + 1,x0,x5,x123000,x123001,x123002,x123003 => if x5 < (x0.length : Int) then (if 0 ≤ x5 then (if (((rd_T36 x0 x5).f0) == x123000 && (((rd_T36 x0 x5).f1) == x123001 && (((rd_T36 x0 x5).f2) == x123002 && (((rd_T36 x0 x5).f3) == x123003)))) = true then (some x5) else (spec_l5Find.l0 k x0 (wrap64 (x5 + 1)) x123000 x123001 x123002 x123003)) else (none)) else (some (-1))
def spec_l5Find.f (k : Nat) (l0 : List (S36)) (a1_0 a1_1 a1_2 a1_3 : Int) : Option (Int):=spec_l5Find.l0 k l0 0 a1_0 a1_1 a1_2 a1_3
set_option maxHeartbeats 8000000 in
set_option maxRecDepth 100000 in
theorem spec_l5Find.calls (k : Nat) (A0 : Option Addr) (c0 : Nat) (l0 : List (S36)) (a1_0 a1_1 a1_2 a1_3 r : Int) (w : World) (hr0 : Kd.C k36 w A0 l0.length l0) (hc0 : l0.length ≤ c0) (h : spec_l5Find.f k l0 a1_0 a1_1 a1_2 a1_3 = some r) :
  Calls Try.prog 96 #[.slice A0 l0.length c0,.agg #[.int .i64 a1_0,.int .i64 a1_1,.int .i64 a1_2,.int .i64 a1_3]] w fun e w' => e = .returned (.int .i64 r) ∧ Below w.heap.size w w':=by
 have hu36:=Try.underlying36
 have a4:=Z_ hr0
 have a5:=Z_ hc0
 clear hr0 hc0
 have HB:=Z_ (Below.refl w.heap.size w)
 unfold spec_l5Find.f at h
 have H:=h
 clear h
 have H':=Z_ H
 clear H
 go_enter Try.func96,Try.ntmps96
 go_wp2_with (first | ((with_reducible refine gD_ 3 rfl ?_);refine bx_ #[.int .i64 a1_0,.int .i64 a1_1,.int .i64 a1_2,.int .i64 a1_3] 36 ?_;intro a0 hg w3 hbox hb;have a1:=Z_ hbox;have a3:=Z_ ((by rw [hg];exact (below_size HB.out) : w.heap.size ≤ a0));replace HB:=Z_ (lP_ HB.out hb);have a2:=a3;clear hb hbox hg))
 repeat (go_quiet (first | ((with_reducible refine gate_dst (N:=3) rfl ?_);refine box_event ?hg (N:=3) ?hd (cs:=#[.int .i64 a1_0,.int .i64 a1_1,.int .i64 a1_2,.int .i64 a1_3]) (t:=36) ?hr ?_;(case hd => rfl);(case hg => rfl);(case hr => first | (go_simp;done) | (go_simp;rfl));intro a0 hg w3 hbox hb;have n0_:=Z_ (lP_ Lb_ hb);have n1_:=Z_ hbox;have n2_:=Z_ ((by rw [hg];exact (below_size Lb_) : w.heap.size ≤ a0));have n3_:=Z_ ((by rw [hg];exact (below_size Lb_) : w.heap.size ≤ a0));clear HB;have HB:=n0_;have a1:=n1_;have a3:=n2_;have a2:=n3_;clear n0_ n1_ n2_ n3_ hb hbox hg));try go_wp2_with (first | ((with_reducible refine gate_dst (N:=3) rfl ?_);refine box_event ?hg (N:=3) ?hd (cs:=#[.int .i64 a1_0,.int .i64 a1_1,.int .i64 a1_2,.int .i64 a1_3]) (t:=36) ?hr ?_;(case hd => rfl);(case hg => rfl);(case hr => first | (go_simp;done) | (go_simp;rfl));intro a0 hg w3 hbox hb;have n0_:=Z_ (lP_ HB.out hb);have n1_:=Z_ hbox;have n3_:=Z_ ((by rw [hg];exact (below_size HB.out) : w.heap.size ≤ a0));clear HB;have HB:=n0_;have a1:=n1_;have a2:=n3_;clear n0_ n1_ n3_ hb hbox hg)))
 go_loopg [5] k (fun kq v5 w' => ∃ (x5_1 : Int),v5 = .int .i64 x5_1 ∧ Aside0 (spec_l5Find.l0 kq l0 x5_1 a1_0 a1_1 a1_2 a1_3 = some r) ∧ Aside0 (kq ≤ k) ∧ Aside0 (w'.heap[a0]? = some (.cells #[.int .i64 a1_0,.int .i64 a1_1,.int .i64 a1_2,.int .i64 a1_3] 36 (0,0))) ∧ Aside0 (Below w.heap.size w w'))
 case atStart => exact ⟨(0),Sr_,H',⟨Nat.le_refl _⟩,⟨Bk_ a1⟩,⟨Lb_⟩⟩
 case round =>
  clear H'
  try clear p2
  obtain ⟨x5_1,rfl,HA,HK1,a1,HB⟩:=hrel
  cases gk with
  | zero => exact absurd HA.out (by simp [spec_l5Find.l0])
  | succ k1 =>
   have H:=HA.out
   clear HA
   simp only [spec_l5Find.l0] at H
   replace H:=iD_ H
   obtain ⟨c4b0,H⟩ | ⟨c4b0,H⟩:=H
   rotate_left
   ·obtain rfl:=Option.some.inj H
    go_wp2
    repeat (go_quiet (fail);try go_wp2)
    go_ret
    exact ⟨Er_,Lb_⟩
   rotate_right
   replace H:=iM_ H
   obtain ⟨c5b0,H⟩:=H
   replace H:=iC_ H
   obtain ⟨c6,H⟩ | ⟨c6,H⟩:=H
   ·have c6b0 : (((rd_T36 l0 x5_1).f0) == a1_0 && (((rd_T36 l0 x5_1).f1) == a1_1 && (((rd_T36 l0 x5_1).f2) == a1_2 && (((rd_T36 l0 x5_1).f3) == a1_3)))) = true:=c6
    (try (have c6b1 : decide (((rd_T36 l0 x5_1).f0) = a1_0 && (((rd_T36 l0 x5_1).f1) == a1_1 && (((rd_T36 l0 x5_1).f2) == a1_2 && (((rd_T36 l0 x5_1).f3) == a1_3)))) = true:=by simpa using c6))
    (try (have c6b2 : (((rd_T36 l0 x5_1).f0) == a1_0 && (((rd_T36 l0 x5_1).f1) == a1_1 && (((rd_T36 l0 x5_1).f2) == a1_2 && (((rd_T36 l0 x5_1).f3) == a1_3)))) = true:=by simpa using c6))
    clear c6
    obtain rfl:=Option.some.inj H
    have p123 : 0 ≤ (x5_1 : Int):=dA_
    have q123 : x5_1 < (l0.length : Int):=dA_
    obtain ⟨ad123,e123,hx123_0,hx123_1,hx123_2,hx123_3⟩:=at_T36 a4.out x5_1 p123 q123
    cases e123
    replace hx123_0:=cB_ HB hx123_0
    replace hx123_1:=cB_ HB hx123_1
    replace hx123_2:=cB_ HB hx123_2
    replace hx123_3:=cB_ HB hx123_3
    replace p123:=eq_true p123
    replace q123:=eq_true q123
    obtain ⟨_,_,_,_,_,_,_,_⟩:=bc4 a1.out
    go_wp2
    repeat (go_quiet (fail);try go_wp2)
    go_ret
    exact ⟨Er_,Lb_⟩
   have c6b0 : (((rd_T36 l0 x5_1).f0) == a1_0 && (((rd_T36 l0 x5_1).f1) == a1_1 && (((rd_T36 l0 x5_1).f2) == a1_2 && (((rd_T36 l0 x5_1).f3) == a1_3)))) = false:=by simpa using c6
   (try (have c6b1 : decide (((rd_T36 l0 x5_1).f0) = a1_0 && (((rd_T36 l0 x5_1).f1) == a1_1 && (((rd_T36 l0 x5_1).f2) == a1_2 && (((rd_T36 l0 x5_1).f3) == a1_3)))) = false:=by simpa using c6))
   (try (have c6b2 : (((rd_T36 l0 x5_1).f0) == a1_0 && (((rd_T36 l0 x5_1).f1) == a1_1 && (((rd_T36 l0 x5_1).f2) == a1_2 && (((rd_T36 l0 x5_1).f3) == a1_3)))) = false:=by simpa using c6))
   (try (have c6b3 : ¬ (((rd_T36 l0 x5_1).f0) = a1_0 && (((rd_T36 l0 x5_1).f1) == a1_1 && (((rd_T36 l0 x5_1).f2) == a1_2 && (((rd_T36 l0 x5_1).f3) == a1_3)))):=by simpa using c6))
   clear c6
   have H':=Z_ H
   clear H
   have p123 : 0 ≤ (x5_1 : Int):=dA_
   have q123 : x5_1 < (l0.length : Int):=dA_
   obtain ⟨ad123,e123,hx123_0,hx123_1,hx123_2,hx123_3⟩:=at_T36 a4.out x5_1 p123 q123
   cases e123
   replace hx123_0:=cB_ HB hx123_0
   replace hx123_1:=cB_ HB hx123_1
   replace hx123_2:=cB_ HB hx123_2
   replace hx123_3:=cB_ HB hx123_3
   replace p123:=eq_true p123
   replace q123:=eq_true q123
   obtain ⟨_,_,_,_,_,_,_,_⟩:=bc4 a1.out
   go_wp2
   repeat (go_quiet (fail);try go_wp2)
   go_roundg k1
   case measure => have:=HK1.out;omega
   case rel => exact ⟨(wrap64 (x5_1 + 1)),Sr_,H',⟨by have:=HK1.out;omega⟩,⟨Bk_ a1⟩,⟨Lb_⟩⟩
end Go.Proofs.Ytpabeajjbifjdaa.G
namespace Go.Proofs.Ytpabeajjbifjdaa.G
open Go.RowKit Go.Proofs.YtpabeajjbifjdaaW.PrintWords Go.Proofs.YtpabeajjbifjdaaW.PrintLast Go.Proofs.YtpabeajjbifjdaaW.PrintMore
attribute [local go_sem] max2_int min2_int max_two min_two max_three min_three max_four min_four   -- for this text's walks alone
set_option linter.unusedVariables false
set_option linter.unusedSimpArgs false
def spec_l5Put.f (k : Nat) (l0 : List (S36)) (a1_0 a1_1 a1_2 a1_3 : Int) : Option (Int × Int × (List (S36))):=(spec_l5Term.f k l0 a1_0 a1_1 a1_2 a1_3).bind fun t126 => (if t126 = 0 then ((spec_l5Find.f k l0 a1_0 a1_1 a1_2 a1_3).bind fun t127 => (if t127 ≥ 0 then ((spec_l5Copy.f l0).bind fun t128 => (some (0,t127,t128))) else (if (l0.length : Int) ≥ 400 then (some (2,0,([] : List (S36)))) else ((spec_l5Copy.f l0).bind fun t131 => ((some (([(⟨a1_0,a1_1,a1_2,a1_3⟩ : S36)] : List (S36)) : List (S36))).bind fun y134 => (if t131.length + y134.length < 4398046511104 then (some (0,(l0.length : Int),(t131 ++ y134))) else (none))))))) else (some (t126,0,([] : List (S36)))))
def spec_l5Put.T9 : Bool × List (List Nat × List Nat):=(true,[([],[]),([0],[0]),([],[]),([2],[2]),([],[]),([4],[4]),([3,5,3],[3,5]),([1,6],[1,6]),([7,6,0,1,2,3,4,5,6,7],[7])])
def spec_l5Put.B9 : List Nat:=[0,1,0,4,0,16,60,127,255]
theorem spec_l5Put.tab9 : rtab .any (opsOf Try.f52 9) = spec_l5Put.T9:=by kernel_rfl
theorem spec_l5Put.bits9 : waitsOk spec_l5Put.T9.2 spec_l5Put.B9 = true:=by kernel_rfl
set_option maxHeartbeats 8000000 in
set_option maxRecDepth 100000 in
theorem spec_l5Put.calls (k : Nat) (A0 : Option Addr) (c0 : Nat) (l0 : List (S36)) (a1_0 a1_1 a1_2 a1_3 r1 r2 : Int) (r3 : List (S36)) (w : World) (hr0 : Kd.C k36 w A0 l0.length l0) (hc0 : l0.length ≤ c0) (h : spec_l5Put.f k l0 a1_0 a1_1 a1_2 a1_3 = some (r1,r2,r3)) :
  Calls Try.prog 52 #[.slice A0 l0.length c0,.agg #[.int .i64 a1_0,.int .i64 a1_1,.int .i64 a1_2,.int .i64 a1_3]] w fun e w' => ∃ v2_ : Value,e = .returned (.agg #[.int .i64 r1,.int .i64 r2,v2_]) ∧ Kd.R k36 36 w' w.heap.size (fun _ => True) v2_ r3 ∧ Below w.heap.size w w':=by
 have hu36:=Try.underlying36
 have hu33:=Try.underlying33
 have aa:=Z_ hr0
 have ab:=Z_ hc0
 clear hr0 hc0
 have HB:=Z_ (Below.refl w.heap.size w)
 unfold spec_l5Put.f at h
 have H:=h
 clear h
 replace H:=bS_ H
 obtain ⟨t126,A3,H⟩:=H
 replace H:=iC_ H
 obtain ⟨c4,H⟩ | ⟨c4,H⟩:=H
 rotate_left
 ·have c4b0 : (t126 == 0) = false:=beq_eq_false_iff_ne.mpr c4
  have c4b1 : (t126 != 0) = true:=bne_iff_ne.mpr c4
  simp only [Option.some.injEq,Prod.mk.injEq] at H
  obtain ⟨rfl,rfl,rfl⟩:=H
  go_enter Try.func52,Try.ntmps52
  go_wp2_with (first | ((with_reducible refine gD_ 3 rfl ?_);refine bx_ #[.int .i64 a1_0,.int .i64 a1_1,.int .i64 a1_2,.int .i64 a1_3] 36 ?_;intro a2 hg w47 hbox hb;have a0:=Z_ hbox;have a5:=Z_ ((by rw [hg];exact (below_size Lb_) : w.heap.size ≤ a2));replace HB:=Z_ (lP_ Lb_ hb);clear hb hbox hg) | ((with_reducible refine gD_ 4 rfl ?_);refine bx_ #[.int .i64 0,.int .i64 0,.slice none 0 0] 33 ?_;intro a4 hg w48 hbox hb;have a1:=Z_ hbox;have a6:=Z_ ((by rw [hg];exact (below_size HB.out) : w.heap.size ≤ a4));replace HB:=Z_ (lP_ HB.out hb);have a3:=Z_ ((by rw [hg];exact Nat.ne_of_lt (blk_lt a0.out) : a2 ≠ a4));replace a0:=Z_ (bB_ a0.out hb);have a7:=Z_ a3.out.symm;clear hb hbox hg;have b0:=a3.out;have b1:=a7.out;obtain ⟨_,_,_,_,_,_,_,_⟩:=bc4 a0.out) | ((with_reducible refine gate_callee (f:=95) rfl ?_);refine goesA_ (some 9) rfl rfl Try.func95 (by kernel_rfl) rfl #[.slice A0 l0.length c0,.agg #[.int .i64 a1_0,.int .i64 a1_1,.int .i64 a1_2,.int .i64 a1_3]] rfl ?_;(with_reducible refine (spec_l5Term.calls k _ _ l0 a1_0 a1_1 a1_2 a1_3 t126 _ ?side1 ?side2 A3.out).mono ?_);(case side1 => exact Cb_ aa);(case side2 => exact ab.out);rintro e w51 ⟨rfl,hb⟩;refine ⟨_,rfl,?_⟩;replace a1:=Z_ (bB_ a1.out hb);replace HB:=Z_ (lP_ HB.out hb);(try clear hb);obtain ⟨_,_,_,_,_,_⟩:=bc3 a1.out))
  refine bodyPost_ret (results_cell_row rfl _ _ a4 33 #[.int .i64 t126,.int .i64 0,.slice none 0 0] (0,0) _ rfl (by (with_reducible repeat first | apply bN_ | apply bD_ | apply bA_);apply fill3;(with_reducible repeat first | apply bN_ | apply bD_ | apply bA_);exact a1.out) Try.underlying33 rfl (by kernel_rfl)) rfl ?_
  exact ⟨_,Er_,by first | exact Kd.R_nil _ _ _ _ _ | exact Kd.N_nil _ _ _ _ _ | exact Kd.V_nil _ _ _ _ _ | exact Kd.Q_nil _ _ _ _ _ | exact Kd.S_nil _ _ _ _ _,Lb_⟩
 rotate_right
 have c4b0 : (t126 == 0) = true:=beq_iff_eq.mpr c4
 have c4b1 : (t126 != 0) = false:=bne_eq_false_iff_eq.mpr c4
 clear c4
 replace H:=bS_ H
 obtain ⟨t127,A5,H⟩:=H
 replace H:=iD_ H
 obtain ⟨c6b0,H⟩ | ⟨c6b0,H⟩:=H
 ·replace c6b0 : decide (0 ≤ t127) = true:=c6b0
  replace H:=bS_ H
  obtain ⟨t128,A7,H⟩:=H
  simp only [Option.some.injEq,Prod.mk.injEq] at H
  obtain ⟨rfl,rfl,rfl⟩:=H
  go_enter Try.func52,Try.ntmps52
  go_wp2_with (first | ((with_reducible refine gD_ 3 rfl ?_);refine bx_ #[.int .i64 a1_0,.int .i64 a1_1,.int .i64 a1_2,.int .i64 a1_3] 36 ?_;intro a2 hg w8 hbox hb;have a0:=Z_ hbox;have a5:=Z_ ((by rw [hg];exact (below_size HB.out) : w.heap.size ≤ a2));replace HB:=Z_ (lP_ HB.out hb);clear hb hbox hg) | ((with_reducible refine gD_ 4 rfl ?_);refine bx_ #[.int .i64 0,.int .i64 0,.slice none 0 0] 33 ?_;intro a4 hg w9 hbox hb;have a1:=Z_ hbox;have a6:=Z_ ((by rw [hg];exact (below_size HB.out) : w.heap.size ≤ a4));replace HB:=Z_ (lP_ HB.out hb);have a3:=Z_ ((by rw [hg];exact Nat.ne_of_lt (blk_lt a0.out) : a2 ≠ a4));replace a0:=Z_ (bB_ a0.out hb);have a7:=Z_ a3.out.symm;clear hb hbox hg;have au:=a3.out;have av:=a7.out;obtain ⟨_,_,_,_,_,_,_,_⟩:=bc4 a0.out) | ((with_reducible refine gate_callee (f:=95) rfl ?_);refine goesA_ (some 9) rfl rfl Try.func95 (by kernel_rfl) rfl #[.slice A0 l0.length c0,.agg #[.int .i64 a1_0,.int .i64 a1_1,.int .i64 a1_2,.int .i64 a1_3]] rfl ?_;(with_reducible refine (spec_l5Term.calls k _ _ l0 a1_0 a1_1 a1_2 a1_3 t126 _ ?side1 ?side2 A3.out).mono ?_);(case side1 => exact Cb_ aa);(case side2 => exact ab.out);rintro e w12 ⟨rfl,hb⟩;refine ⟨_,rfl,?_⟩;replace a0:=Z_ (bB_ a0.out hb);replace a1:=Z_ (bB_ a1.out hb);replace HB:=Z_ (lP_ HB.out hb);(try clear hb);obtain ⟨_,_,_,_,_,_,_,_⟩:=bc4 a0.out) | ((with_reducible refine gate_callee (f:=96) rfl ?_);refine goesA_ (some 16) rfl rfl Try.func96 (by kernel_rfl) rfl #[.slice A0 l0.length c0,.agg #[.int .i64 a1_0,.int .i64 a1_1,.int .i64 a1_2,.int .i64 a1_3]] rfl ?_;(with_reducible refine (spec_l5Find.calls k _ _ l0 a1_0 a1_1 a1_2 a1_3 t127 _ ?side1 ?side2 A5.out).mono ?_);(case side1 => exact Cb_ aa);(case side2 => exact ab.out);rintro e w14 ⟨rfl,hb⟩;refine ⟨_,rfl,?_⟩;replace a0:=Z_ (bB_ a0.out hb);replace a1:=Z_ (bB_ a1.out hb);replace HB:=Z_ (lP_ HB.out hb);(try clear hb)) | ((with_reducible refine gate_callee (f:=46) rfl ?_);refine goesA_ (some 21) rfl rfl Try.func46 (by kernel_rfl) rfl #[.slice A0 l0.length c0] rfl ?_;(with_reducible refine (spec_l5Copy.calls _ _ l0 t128 _ ?side1 ?side2 A7.out).mono ?_);(case side1 => exact Cb_ aa);(case side2 => exact ab.out);rintro e w15 ⟨v129,rfl,ho0,hb⟩;refine ⟨_,rfl,?_⟩;have ad:=Z_ (Kd.R_lower (Kd.R_newB ho0 a0.out) (below_size HB.out));replace a1:=Z_ (bB_ a1.out hb);replace HB:=Z_ (lP_ HB.out hb);(try clear hb);(try clear ho0);obtain ⟨am,an,eo16⟩:=Kd.R_slice ad.out;subst eo16;obtain ⟨_,_,_,_,_,_⟩:=bc3 a1.out))
  refine bodyPost_ret (results_cell_row rfl _ _ a4 33 #[.int .i64 0,.int .i64 t127,.slice am t128.length an] (0,0) _ rfl (by (with_reducible repeat first | apply bN_ | apply bD_ | apply bA_);apply fill3;(with_reducible repeat first | apply bN_ | apply bD_ | apply bA_);exact a1.out) Try.underlying33 rfl (by kernel_rfl)) rfl ?_
  exact ⟨_,Er_,by (with_reducible repeat first | apply rA_ | apply rN_ | apply rD_);exact Kd.R_mono (rfar3 (g:=a4) (Kd.R_types ad.out a1.out (by decide)) (fun _ hk => hk.2)) (fun _ hk => trivial),Lb_⟩
 replace c6b0 : decide (0 ≤ t127) = false:=c6b0
 replace H:=iC_ H
 obtain ⟨c18,H⟩ | ⟨c18,H⟩:=H
 ·have c18b0 : decide (400 ≤ (l0.length : Int)) = true:=decide_eq_true c18
  have c18b1 : decide (400 ≤ l0.length) = true:=decide_eq_true (by omega)
  clear c18
  simp only [Option.some.injEq,Prod.mk.injEq] at H
  obtain ⟨rfl,rfl,rfl⟩:=H
  go_enter Try.func52,Try.ntmps52
  go_wp2_with (first | ((with_reducible refine gD_ 3 rfl ?_);refine bx_ #[.int .i64 a1_0,.int .i64 a1_1,.int .i64 a1_2,.int .i64 a1_3] 36 ?_;intro a2 hg w19 hbox hb;have a0:=Z_ hbox;have a5:=Z_ ((by rw [hg];exact (below_size Lb_) : w.heap.size ≤ a2));replace HB:=Z_ (lP_ Lb_ hb);clear hb hbox hg) | ((with_reducible refine gD_ 4 rfl ?_);refine bx_ #[.int .i64 0,.int .i64 0,.slice none 0 0] 33 ?_;intro a4 hg w20 hbox hb;have a1:=Z_ hbox;have a6:=Z_ ((by rw [hg];exact (below_size HB.out) : w.heap.size ≤ a4));replace HB:=Z_ (lP_ HB.out hb);have a3:=Z_ ((by rw [hg];exact Nat.ne_of_lt (blk_lt a0.out) : a2 ≠ a4));replace a0:=Z_ (bB_ a0.out hb);have a7:=Z_ a3.out.symm;clear hb hbox hg;have aw:=a3.out;have ax:=a7.out;obtain ⟨_,_,_,_,_,_,_,_⟩:=bc4 a0.out) | ((with_reducible refine gate_callee (f:=95) rfl ?_);refine goesA_ (some 9) rfl rfl Try.func95 (by kernel_rfl) rfl #[.slice A0 l0.length c0,.agg #[.int .i64 a1_0,.int .i64 a1_1,.int .i64 a1_2,.int .i64 a1_3]] rfl ?_;(with_reducible refine (spec_l5Term.calls k _ _ l0 a1_0 a1_1 a1_2 a1_3 t126 _ ?side1 ?side2 A3.out).mono ?_);(case side1 => exact Cb_ aa);(case side2 => exact ab.out);rintro e w23 ⟨rfl,hb⟩;refine ⟨_,rfl,?_⟩;replace a0:=Z_ (bB_ a0.out hb);replace a1:=Z_ (bB_ a1.out hb);replace HB:=Z_ (lP_ HB.out hb);(try clear hb);obtain ⟨_,_,_,_,_,_,_,_⟩:=bc4 a0.out) | ((with_reducible refine gate_callee (f:=96) rfl ?_);refine goesA_ (some 16) rfl rfl Try.func96 (by kernel_rfl) rfl #[.slice A0 l0.length c0,.agg #[.int .i64 a1_0,.int .i64 a1_1,.int .i64 a1_2,.int .i64 a1_3]] rfl ?_;(with_reducible refine (spec_l5Find.calls k _ _ l0 a1_0 a1_1 a1_2 a1_3 t127 _ ?side1 ?side2 A5.out).mono ?_);(case side1 => exact Cb_ aa);(case side2 => exact ab.out);rintro e w25 ⟨rfl,hb⟩;refine ⟨_,rfl,?_⟩;replace a1:=Z_ (bB_ a1.out hb);replace HB:=Z_ (lP_ HB.out hb);(try clear hb);obtain ⟨_,_,_,_,_,_⟩:=bc3 a1.out))
  refine bodyPost_ret (results_cell_row rfl _ _ a4 33 #[.int .i64 2,.int .i64 0,.slice none 0 0] (0,0) _ rfl (by (with_reducible repeat first | apply bN_ | apply bD_ | apply bA_);apply fill3;(with_reducible repeat first | apply bN_ | apply bD_ | apply bA_);exact a1.out) Try.underlying33 rfl (by kernel_rfl)) rfl ?_
  exact ⟨_,Er_,by first | exact Kd.R_nil _ _ _ _ _ | exact Kd.N_nil _ _ _ _ _ | exact Kd.V_nil _ _ _ _ _ | exact Kd.Q_nil _ _ _ _ _ | exact Kd.S_nil _ _ _ _ _,Lb_⟩
 have c18b0 : decide (400 ≤ (l0.length : Int)) = false:=decide_eq_false c18
 have c18b1 : decide (400 ≤ l0.length) = false:=decide_eq_false (by omega)
 clear c18
 replace H:=bS_ H
 obtain ⟨t131,al,H⟩:=H
 obtain ⟨y134,hy134⟩ : ∃ y_ : List (S36),y_ = (([(⟨a1_0,a1_1,a1_2,a1_3⟩ : S36)] : List (S36))):=⟨_,rfl⟩
 replace H : (if t131.length + y134.length < 4398046511104 then (some (0,(l0.length : Int),(t131 ++ y134))) else (none)) = some (r1,r2,r3):=by first | (rw [hy134];with_reducible exact H) | (have H2_:=(Option.bind_some _ _).symm.trans H;rw [hy134];with_reducible exact H2_) | (have H2_:=(Option.bind_some _ _).symm.trans H;with_reducible exact H2_) | with_reducible exact H | (rw [hy134];exact H) | exact H
 have ac:=Z_ hy134
 clear hy134
 replace H:=iN_ H
 obtain ⟨c28,H⟩:=H
 have ag:=Z_ c28
 clear c28
 obtain ⟨y137,hy137⟩ : ∃ y_ : List (S36),y_ = (t131 ++ y134):=⟨_,rfl⟩
 replace H : (some (0,(l0.length : Int),y137)) = some (r1,r2,r3):=by first | (rw [hy137];with_reducible exact H) | (have H2_:=(Option.bind_some _ _).symm.trans H;rw [hy137];with_reducible exact H2_) | (have H2_:=(Option.bind_some _ _).symm.trans H;with_reducible exact H2_) | with_reducible exact H | (rw [hy137];exact H) | exact H
 have ah:=Z_ hy137
 clear hy137
 simp only [Option.some.injEq,Prod.mk.injEq] at H
 obtain ⟨rfl,rfl,rfl⟩:=H
 go_enter Try.func52,Try.ntmps52
 try go_wp2_with (first | ((with_reducible refine gD_ 3 rfl ?_);refine bx_ #[.int .i64 a1_0,.int .i64 a1_1,.int .i64 a1_2,.int .i64 a1_3] 36 ?_;intro a2 hg w29 hbox hb;have a0:=Z_ hbox;have a5:=Z_ ((by rw [hg];exact (below_size Lb_) : w.heap.size ≤ a2));replace HB:=Z_ (lP_ Lb_ hb);clear hb hbox hg) | ((with_reducible refine gD_ 4 rfl ?_);refine bx_ #[.int .i64 0,.int .i64 0,.slice none 0 0] 33 ?_;intro a4 hg w30 hbox hb;have a1:=Z_ hbox;have a6:=Z_ ((by rw [hg];exact (below_size HB.out) : w.heap.size ≤ a4));replace HB:=Z_ (lP_ HB.out hb);have a3:=Z_ ((by rw [hg];exact Nat.ne_of_lt (blk_lt a0.out) : a2 ≠ a4));replace a0:=Z_ (bB_ a0.out hb);have a7:=Z_ a3.out.symm;clear hb hbox hg;have ay:=a3.out;have az:=a7.out;obtain ⟨_,_,_,_,_,_,_,_⟩:=bc4 a0.out) | ((with_reducible refine gate_callee (f:=95) rfl ?_);refine goesA_ (some 9) rfl rfl Try.func95 (by kernel_rfl) rfl #[.slice A0 l0.length c0,.agg #[.int .i64 a1_0,.int .i64 a1_1,.int .i64 a1_2,.int .i64 a1_3]] rfl ?_;(with_reducible refine (spec_l5Term.calls k _ _ l0 a1_0 a1_1 a1_2 a1_3 t126 _ ?side1 ?side2 A3.out).mono ?_);(case side1 => exact Cb_ aa);(case side2 => exact ab.out);rintro e w33 ⟨rfl,hb⟩;refine ⟨_,rfl,?_⟩;replace a0:=Z_ (bB_ a0.out hb);replace a1:=Z_ (bB_ a1.out hb);replace HB:=Z_ (lP_ HB.out hb);(try clear hb);obtain ⟨_,_,_,_,_,_,_,_⟩:=bc4 a0.out) | ((with_reducible refine gate_callee (f:=96) rfl ?_);refine goesA_ (some 16) rfl rfl Try.func96 (by kernel_rfl) rfl #[.slice A0 l0.length c0,.agg #[.int .i64 a1_0,.int .i64 a1_1,.int .i64 a1_2,.int .i64 a1_3]] rfl ?_;(with_reducible refine (spec_l5Find.calls k _ _ l0 a1_0 a1_1 a1_2 a1_3 t127 _ ?side1 ?side2 A5.out).mono ?_);(case side1 => exact Cb_ aa);(case side2 => exact ab.out);rintro e w35 ⟨rfl,hb⟩;refine ⟨_,rfl,?_⟩;replace a0:=Z_ (bB_ a0.out hb);replace a1:=Z_ (bB_ a1.out hb);replace HB:=Z_ (lP_ HB.out hb);(try clear hb)))
 replace a0:=Z_ (bD_ a0.out)
 replace a1:=Z_ (bD_ a1.out)
 replace HB:=Z_ (lD_ HB.out)
 refine start_ (n:=9) (S:=fun w' => w'.cell? ⟨a2,0,none⟩ = some (.int .i64 a1_0) ∧ w'.cell? ⟨a2,1,none⟩ = some (.int .i64 a1_1) ∧ w'.cell? ⟨a2,2,none⟩ = some (.int .i64 a1_2) ∧ w'.cell? ⟨a2,3,none⟩ = some (.int .i64 a1_3)) (ds:=[]) (Bt 9 0) (by kernel_rfl) rfl rfl ⟨(blk_cell a0.out 0).trans rfl,(blk_cell a0.out 1).trans rfl,(blk_cell a0.out 2).trans rfl,(blk_cell a0.out 3).trans rfl⟩ (fun hHeld => ?_);refine with_tabW spec_l5Put.tab9 spec_l5Put.bits9 (fun HT_ HW_ => ?_)
 generalize w35.drew = w36 at a0 a1 HB hHeld ⊢
 refine pu_ 0 (some 27) (Bt 9 1) (any_of HT_.out (by kernel_rfl)) ?_
 refine pu_ 1 (some 28) (Bt 9 3) (any_of HT_.out (by kernel_rfl)) ?_
 refine pu_ 2 (some 29) (Bt 9 7) (any_of HT_.out (by kernel_rfl)) ?_
 refine ta_ 4 (some 31) (Bt 9 23) (take_ofW HT_.out HW_.out (by kernel_rfl)) hHeld ?_
 refine join_ (σ:=Value × Value) 3 (Bt 9 63) (fun s_ => [(30,s_.1),(32,s_.2)]) (fun s_ w' => (w'.cell? ⟨a2,0,none⟩ = some (.int .i64 a1_0) ∧ w'.cell? ⟨a2,1,none⟩ = some (.int .i64 a1_1) ∧ w'.cell? ⟨a2,2,none⟩ = some (.int .i64 a1_2) ∧ w'.cell? ⟨a2,3,none⟩ = some (.int .i64 a1_3)) ∧ (Kd.R k36 36 w' w.heap.size (fun k_ => some k_ ≠ (s_.2 : Value).ownBlock ∧ k_ ≠ a2) s_.1 t131) ∧ (Kd.R k36 36 w' w.heap.size (fun k_ => some k_ ≠ (s_.1 : Value).ownBlock ∧ k_ ≠ a2) s_.2 y134) ∧ (w'.heap[a2]? = some (.cells #[.int .i64 a1_0,.int .i64 a1_1,.int .i64 a1_2,.int .i64 a1_3] 36 (0,0))) ∧ (w'.heap[a4]? = some (.cells #[.int .i64 0,.int .i64 0,.slice none 0 0] 33 (0,0))) ∧ (Below w.heap.size w w')) ?_ ?_
 rotate_left
 ·intro hCont
  refine two_ (i:=3) (j:=5) (Ni:=some 30) (Nj:=some 32) (Bt 9 31) (Bt 9 55) rfl rfl rfl rfl (two_of HT_.out (by kernel_rfl)) (by decide) (by decide) (fun K hK => ?_) (fun K hK => ?_)
  ·skip
   refine goes_ Try.func46 (by kernel_rfl) rfl #[.slice A0 l0.length c0] (by rfl) rfl rfl (by (try simp only [List.map_toArray,List.map_cons,List.map_nil]);first | done | rfl | (simp only [List.length_drop,List.length_take];rfl)) ?_
   with_reducible refine (spec_l5Copy.calls _ _ l0 t131 _ ?side1 ?side2 al.out).mono ?_
   (case side1 => exact Cb_ aa)
   (case side2 => exact ab.out)
   rintro e w37 ⟨v132,rfl,ho0,hb⟩
   refine ⟨_,rfl,?_⟩
   have n0_:=Z_ (Kd.R_lower (Kd.R_newB ho0 (g:=a2) (o:=.cells #[.int .i64 a1_0,.int .i64 a1_1,.int .i64 a1_2,.int .i64 a1_3] 36 (0,0)) (Bk_ a0)) (below_size Lb_))
   have n1_:=Z_ (bB_ (g:=a2) (o:=.cells #[.int .i64 a1_0,.int .i64 a1_1,.int .i64 a1_2,.int .i64 a1_3] 36 (0,0)) (Bk_ a0) hb)
   have n2_:=Z_ (bB_ (g:=a4) (o:=.cells #[.int .i64 0,.int .i64 0,.slice none 0 0] 33 (0,0)) (Bk_ a1) hb)
   have n3_:=Z_ (lP_ Lb_ hb)
   clear a0
   clear a1
   clear HB
   have a9:=n0_
   have a0:=n1_
   have a1:=n2_
   have HB:=n3_
   clear n0_ n1_ n2_ n3_
   (try clear hb)
   (try clear hb2)
   (try clear hk)
   (try clear hi)
   (try clear ho0)
   refine hK.out _ _ ⟨(blk_cell a0.out 0).trans rfl,(blk_cell a0.out 1).trans rfl,(blk_cell a0.out 2).trans rfl,(blk_cell a0.out 3).trans rfl⟩ (fun hHeld => ?_)
   clear hK K
   refine norm_ (a':=?_) ?_ ?_
   rotate_left
   ·show Act.put _ (some 30) _ = _
    simp only [Act.put,lA_,lZ_,lS_,i64_w,i32_w]
    rfl
   refine one_ (i:=5) (N:=some 32) (Bt 9 63) rfl rfl (one_of HT_.out (by kernel_rfl)) (by decide) (fun K hK => ?_)
   refine Kd.R_lit_step k36 _ 36 ?hg (N:=32) ?hd (xs:=([(⟨a1_0,a1_1,a1_2,a1_3⟩ : S36)] : List (S36))) (inner:=[.int .i64 a1_0,.int .i64 a1_1,.int .i64 a1_2,.int .i64 a1_3]) (ok:=fun _ => True) (okp:=fun _ => True) ?hr ?hp (fun _ hk => hk) trivial (Below.refl _ _) (Nat.le_refl _) (by simp) ?_;(case hd => rfl);(case hg => rfl);(case hr => first | (go_simp;done) | (go_simp;rfl));(case hp => exact (Reps.c4 (show Kd.M k36 _ _ _ (⟨a1_0,a1_1,a1_2,a1_3⟩ : S36) [.int .i64 a1_0,.int .i64 a1_1,.int .i64 a1_2,.int .i64 a1_3] from (k36_mkM _ _ _ (⟨a1_0,a1_1,a1_2,a1_3⟩ : S36) )) (Reps.none _ _)))
   intro v135 w38 ho39 hb hg_ hnew_
   clear hg_ hnew_
   (first | rw [← ac.out] at ho39 | (simp only [Int.reduceToNat] at ho39;rw [← ac.out] at ho39))
   have n0_:=Z_ (Kd.R_elder' (Rk_ a9) (Kd.R_base ho39) hb)
   have n1_:=Z_ (Kd.R_lower (Kd.R_newB (Kd.R_new' ho39 (Kd.R_lt (Rk_ a9))) (g:=a2) (o:=.cells #[.int .i64 a1_0,.int .i64 a1_1,.int .i64 a1_2,.int .i64 a1_3] 36 (0,0)) (Bk_ a0)) (below_size Lb_))
   have n2_:=Z_ (bB_ (g:=a2) (o:=.cells #[.int .i64 a1_0,.int .i64 a1_1,.int .i64 a1_2,.int .i64 a1_3] 36 (0,0)) (Bk_ a0) hb)
   have n3_:=Z_ (bB_ (g:=a4) (o:=.cells #[.int .i64 0,.int .i64 0,.slice none 0 0] 33 (0,0)) (Bk_ a1) hb)
   have n4_:=Z_ (lP_ Lb_ hb)
   clear a9
   clear a0
   clear a1
   clear HB
   have a9:=n0_
   have a8:=n1_
   have a0:=n2_
   have a1:=n3_
   have HB:=n4_
   clear n0_ n1_ n2_ n3_ n4_
   clear hb ho39
   refine hK.out _ _ ⟨(blk_cell a0.out 0).trans rfl,(blk_cell a0.out 1).trans rfl,(blk_cell a0.out 2).trans rfl,(blk_cell a0.out 3).trans rfl⟩ (fun hHeld => ?_)
   clear hK K
   refine norm_ (a':=?_) ?_ ?_
   rotate_left
   ·show Act.put _ (some 32) _ = _
    simp only [Act.put,lA_,lZ_,lS_,i64_w,i32_w]
    rfl
   exact norm_ (by simp only [putAll,Act.put,lA_,lZ_,lS_]) (hCont (v132,v135) _ ⟨hHeld,(by (with_reducible repeat first | apply rA_ | apply rN_ | apply rD_);exact Kd.R_mono a9.out (fun _ hk => ⟨hk.2,hk.1.2⟩)),(by (with_reducible repeat first | apply rA_ | apply rN_ | apply rD_);exact Kd.R_mono a8.out (fun _ hk => ⟨hk.1.2,hk.2⟩)),(Bk_ a0),(Bk_ a1),Lb_⟩)
  ·skip
   refine Kd.R_lit_step k36 _ 36 ?hg (N:=32) ?hd (xs:=([(⟨a1_0,a1_1,a1_2,a1_3⟩ : S36)] : List (S36))) (inner:=[.int .i64 a1_0,.int .i64 a1_1,.int .i64 a1_2,.int .i64 a1_3]) (ok:=fun _ => True) (okp:=fun _ => True) ?hr ?hp (fun _ hk => hk) trivial (Below.refl _ _) (Nat.le_refl _) (by simp) ?_;(case hd => rfl);(case hg => rfl);(case hr => first | (go_simp;done) | (go_simp;rfl));(case hp => exact (Reps.c4 (show Kd.M k36 _ _ _ (⟨a1_0,a1_1,a1_2,a1_3⟩ : S36) [.int .i64 a1_0,.int .i64 a1_1,.int .i64 a1_2,.int .i64 a1_3] from (k36_mkM _ _ _ (⟨a1_0,a1_1,a1_2,a1_3⟩ : S36) )) (Reps.none _ _)))
   intro v135 w37 ho38 hb hg_ hnew_
   clear hg_ hnew_
   (first | rw [← ac.out] at ho38 | (simp only [Int.reduceToNat] at ho38;rw [← ac.out] at ho38))
   have n0_:=Z_ (Kd.R_lower (Kd.R_newB ho38 (g:=a2) (o:=.cells #[.int .i64 a1_0,.int .i64 a1_1,.int .i64 a1_2,.int .i64 a1_3] 36 (0,0)) (Bk_ a0)) (below_size Lb_))
   have n1_:=Z_ (bB_ (g:=a2) (o:=.cells #[.int .i64 a1_0,.int .i64 a1_1,.int .i64 a1_2,.int .i64 a1_3] 36 (0,0)) (Bk_ a0) hb)
   have n2_:=Z_ (bB_ (g:=a4) (o:=.cells #[.int .i64 0,.int .i64 0,.slice none 0 0] 33 (0,0)) (Bk_ a1) hb)
   have n3_:=Z_ (lP_ Lb_ hb)
   clear a0
   clear a1
   clear HB
   have a8:=n0_
   have a0:=n1_
   have a1:=n2_
   have HB:=n3_
   clear n0_ n1_ n2_ n3_
   clear hb ho38
   refine hK.out _ _ ⟨(blk_cell a0.out 0).trans rfl,(blk_cell a0.out 1).trans rfl,(blk_cell a0.out 2).trans rfl,(blk_cell a0.out 3).trans rfl⟩ (fun hHeld => ?_)
   clear hK K
   refine norm_ (a':=?_) ?_ ?_
   rotate_left
   ·show Act.put _ (some 32) _ = _
    simp only [Act.put,lA_,lZ_,lS_,i64_w,i32_w]
    rfl
   refine one_ (i:=3) (N:=some 30) (Bt 9 63) rfl rfl (one_of HT_.out (by kernel_rfl)) (by decide) (fun K hK => ?_)
   refine goes_ Try.func46 (by kernel_rfl) rfl #[.slice A0 l0.length c0] (by rfl) rfl rfl (by (try simp only [List.map_toArray,List.map_cons,List.map_nil]);first | done | rfl | (simp only [List.length_drop,List.length_take];rfl)) ?_
   with_reducible refine (spec_l5Copy.calls _ _ l0 t131 _ ?side1 ?side2 al.out).mono ?_
   (case side1 => exact Cb_ aa)
   (case side2 => exact ab.out)
   rintro e w39 ⟨v132,rfl,ho0,hb⟩
   refine ⟨_,rfl,?_⟩
   have n0_:=Z_ (Kd.R_elder' (Rk_ a8) (Kd.R_base ho0) hb)
   have n1_:=Z_ (Kd.R_lower (Kd.R_newB (Kd.R_new' ho0 (Kd.R_lt (Rk_ a8))) (g:=a2) (o:=.cells #[.int .i64 a1_0,.int .i64 a1_1,.int .i64 a1_2,.int .i64 a1_3] 36 (0,0)) (Bk_ a0)) (below_size Lb_))
   have n2_:=Z_ (bB_ (g:=a2) (o:=.cells #[.int .i64 a1_0,.int .i64 a1_1,.int .i64 a1_2,.int .i64 a1_3] 36 (0,0)) (Bk_ a0) hb)
   have n3_:=Z_ (bB_ (g:=a4) (o:=.cells #[.int .i64 0,.int .i64 0,.slice none 0 0] 33 (0,0)) (Bk_ a1) hb)
   have n4_:=Z_ (lP_ Lb_ hb)
   clear a8
   clear a0
   clear a1
   clear HB
   have a8:=n0_
   have a9:=n1_
   have a0:=n2_
   have a1:=n3_
   have HB:=n4_
   clear n0_ n1_ n2_ n3_ n4_
   (try clear hb)
   (try clear hb2)
   (try clear hk)
   (try clear hi)
   (try clear ho0)
   refine hK.out _ _ ⟨(blk_cell a0.out 0).trans rfl,(blk_cell a0.out 1).trans rfl,(blk_cell a0.out 2).trans rfl,(blk_cell a0.out 3).trans rfl⟩ (fun hHeld => ?_)
   clear hK K
   refine norm_ (a':=?_) ?_ ?_
   rotate_left
   ·show Act.put _ (some 30) _ = _
    simp only [Act.put,lA_,lZ_,lS_,i64_w,i32_w]
    rfl
   exact norm_ (by simp only [putAll,Act.put,lA_,lZ_,lS_]) (hCont (v132,v135) _ ⟨hHeld,(by (with_reducible repeat first | apply rA_ | apply rN_ | apply rD_);exact Kd.R_mono a9.out (fun _ hk => ⟨hk.1.2,hk.2⟩)),(by (with_reducible repeat first | apply rA_ | apply rN_ | apply rD_);exact Kd.R_mono a8.out (fun _ hk => ⟨hk.2,hk.1.2⟩)),(Bk_ a0),(Bk_ a1),Lb_⟩)
 rintro ⟨v132,v135⟩ w40 ⟨hS_,h0_,h1_,h2_,h3_,h4_⟩
 have n0_ : Aside0 (Kd.R k36 36 w40 w.heap.size (fun k_ => some k_ ≠ (v135 : Value).ownBlock ∧ k_ ≠ a2) v132 t131):=⟨h0_⟩
 have n1_ : Aside0 (Kd.R k36 36 w40 w.heap.size (fun k_ => some k_ ≠ (v132 : Value).ownBlock ∧ k_ ≠ a2) v135 y134):=⟨h1_⟩
 have n2_ : Aside0 (w40.heap[a2]? = some (.cells #[.int .i64 a1_0,.int .i64 a1_1,.int .i64 a1_2,.int .i64 a1_3] 36 (0,0))):=⟨h2_⟩
 have n3_ : Aside0 (w40.heap[a4]? = some (.cells #[.int .i64 0,.int .i64 0,.slice none 0 0] 33 (0,0))):=⟨h3_⟩
 have n4_ : Aside0 (Below w.heap.size w w40):=⟨h4_⟩
 clear a0
 clear a1
 clear HB
 clear h0_ h1_ h2_ h3_ h4_
 have a9:=n0_
 have a8:=n1_
 have a0:=n2_
 have a1:=n3_
 have HB:=n4_
 clear n0_ n1_ n2_ n3_ n4_
 have hHeld : w40.cell? ⟨a2,0,none⟩ = some (.int .i64 a1_0) ∧ w40.cell? ⟨a2,1,none⟩ = some (.int .i64 a1_1) ∧ w40.cell? ⟨a2,2,none⟩ = some (.int .i64 a1_2) ∧ w40.cell? ⟨a2,3,none⟩ = some (.int .i64 a1_3):=hS_
 obtain ⟨ao,ap,eo42⟩:=Kd.R_slice a8.out
 (first | subst eo42 | (injection eo42 with f1_ f2_ f3_;have f4_:=f1_.symm;have f5_:=f3_.symm;clear f1_ f2_ f3_;subst f4_;subst f5_))
 refine norm_ (a':=?_) ?_ ?_
 rotate_left
 ·simp only [putAll,Act.put,lA_,lZ_,lS_]
  rfl
 refine one_ (i:=6) (N:=some 33) (Bt 9 127) rfl rfl (one_of HT_.out (by kernel_rfl)) (by decide) (fun K hK => ?_)
 refine Kd.R_append_rows_step k36 (w0:=w) w.heap.size (by rfl) (.tmp 30) (.tmp 32) 24 36 (.agg #[(.int .i64 0),(.int .i64 0),(.int .i64 0),(.int .i64 0)]) 32 rfl Try.underlying24 info36 rfl (by decide) (by omega) v132 t131 y134 _ _ _ (fun k_ => some k_ ≠ (.slice ao y134.length ap : Value).ownBlock ∧ k_ ≠ a2) (fun _ => False) rfl rfl ?aO ?aR (fun _ _ h => h) (fun _ h => h.elim) ?aF ?aB ?aS ?aL ?_
 (case aR => exact Rc_ a8)
 (case aB => exact Lb_)
 (case aF => exact (fun k_ hk => ⟨Kd.fresh' (Kd.R_lt (Rk_ a8)) k_ hk,Kd.freshB (g:=a2) (o:=.cells #[.int .i64 a1_0,.int .i64 a1_1,.int .i64 a1_2,.int .i64 a1_3] 36 (0,0)) (Bk_ a0) k_ hk⟩))
 (case aO => exact (Rk_ a9))
 (case aS => exact (below_size Lb_))
 (case aL => have:=ag.out;omega)
 intro v138 w41 ho hb hg hat
 rw [← ah.out] at ho
 have n0_:=Z_ (blk_grown (g:=a2) (o:=.cells #[.int .i64 a1_0,.int .i64 a1_1,.int .i64 a1_2,.int .i64 a1_3] 36 (0,0)) (Bk_ a0) hg (Kd.R_away a9.out (fun _ hk => hk.2)))
 have n1_:=Z_ (blk_grown (g:=a4) (o:=.cells #[.int .i64 0,.int .i64 0,.slice none 0 0] 33 (0,0)) (Bk_ a1) hg (Kd.R_ne a9.out a1.out (by decide)))
 have n2_:=Z_ (Kd.R_after (ok:=(fun k_ => k_ ≠ a2)) (by (with_reducible repeat first | apply rA_ | apply rN_ | apply rD_);exact Kd.R_mono a8.out (fun _ hk => ⟨hk.2,hk.1⟩)) hg hat)
 have n3_:=Z_ (hb)
 have n4_:=Z_ (ho)
 clear a0
 clear a1
 clear a8
 clear HB
 clear a9
 have a0:=n0_
 have a1:=n1_
 have a8:=n2_
 have HB:=n3_
 have ae:=n4_
 clear n0_ n1_ n2_ n3_ n4_
 clear ho hb hg hat
 obtain ⟨aq,ar,eo43⟩:=Kd.R_slice ae.out
 (first | subst eo43 | (injection eo43 with f1_ f2_ f3_;have f4_:=f1_.symm;have f5_:=f3_.symm;clear f1_ f2_ f3_;subst f4_;subst f5_))
 refine hK.out _ _ ⟨(blk_cell a0.out 0).trans rfl,(blk_cell a0.out 1).trans rfl,(blk_cell a0.out 2).trans rfl,(blk_cell a0.out 3).trans rfl⟩ (fun hHeld => ?_)
 clear hK K
 refine norm_ (a':=?_) ?_ ?_
 rotate_left
 ·show Act.put _ (some 33) _ = _
  simp only [Act.put,lA_,lZ_,lS_,i64_w,i32_w]
  rfl
 refine pu_ 7 (some 34) (Bt 9 255) (any_of HT_.out (by kernel_rfl)) ?_
 refine one_ (i:=8) (N:=none) (Bt 9 511) rfl rfl (one_of HT_.out (by kernel_rfl)) (by decide) (fun K hK => ?_)
 have hs44 : w41.cell? ⟨a4,0,none⟩ = some (.int .i64 0):=(blk_cell a1.out 0).trans rfl
 have hfs44:=blk_frozen a1.out 0
 have hns44_0:=a3.out
 have hms44_0:=a7.out
 have hs45 : w41.cell? ⟨a4,1,none⟩ = some (.int .i64 0):=(blk_cell a1.out 1).trans rfl
 have hfs45:=blk_frozen a1.out 1
 have hns45_0:=a3.out
 have hms45_0:=a7.out
 have hs46 : w41.cell? ⟨a4,2,none⟩ = some (.slice none 0 0):=(blk_cell a1.out 2).trans rfl
 have hfs46:=blk_frozen a1.out 2
 have hns46_0:=a3.out
 have hms46_0:=a7.out
 refine skip_ (w1:=?_) (by rfl) rfl ?_ ?_
 rotate_left
 ·go_simp
  rfl
 refine hK.out _ _ ⟨((cell_far (p:=⟨a4,_,none⟩) a3.out _).trans (((cell_far (p:=⟨a4,_,none⟩) a3.out _).trans (((cell_far (p:=⟨a4,_,none⟩) a3.out _).trans (hHeld.1)))))),((cell_far (p:=⟨a4,_,none⟩) a3.out _).trans (((cell_far (p:=⟨a4,_,none⟩) a3.out _).trans (((cell_far (p:=⟨a4,_,none⟩) a3.out _).trans (hHeld.2.1)))))),((cell_far (p:=⟨a4,_,none⟩) a3.out _).trans (((cell_far (p:=⟨a4,_,none⟩) a3.out _).trans (((cell_far (p:=⟨a4,_,none⟩) a3.out _).trans (hHeld.2.2.1)))))),((cell_far (p:=⟨a4,_,none⟩) a3.out _).trans (((cell_far (p:=⟨a4,_,none⟩) a3.out _).trans (((cell_far (p:=⟨a4,_,none⟩) a3.out _).trans (hHeld.2.2.2))))))⟩ (fun hHeld => ?_)
 clear hK K
 refine done_ (done_of HT_.out (by kernel_rfl)) ?_
 try go_wp2
 refine bodyPost_ret (results_cell_row rfl _ _ a4 33 #[.int .i64 0,.int .i64 (l0.length : Int),.slice aq y137.length ar] (0,0) _ rfl (by (with_reducible repeat first | apply bN_ | apply bD_ | apply bA_);apply fill3;(with_reducible repeat first | apply bN_ | apply bD_ | apply bA_);exact a1.out) Try.underlying33 rfl (by kernel_rfl)) rfl ?_
 exact ⟨_,Er_,by (with_reducible repeat first | apply rA_ | apply rN_ | apply rD_);exact Kd.R_mono (rfar3 (g:=a4) (Kd.R_types ae.out a1.out (by decide)) (fun _ hk => hk.2)) (fun _ hk => trivial),Lb_⟩
def spec_l1Min.f (a0 a1 : Int) : Option (Int):=if a0 < a1 then (some a0) else (some a1)
set_option maxHeartbeats 8000000 in
set_option maxRecDepth 100000 in
theorem spec_l1Min.calls (a0 a1 r : Int) (w : World) (h : spec_l1Min.f a0 a1 = some r) :
  Calls Try.prog 86 #[.int .i64 a0,.int .i64 a1] w fun e w' => e = .returned (.int .i64 r) ∧ Drawn0 w w':=by
 unfold spec_l1Min.f at h
 have H:=h
 clear h
 replace H:=iD_ H
 obtain ⟨c3b0,H⟩ | ⟨c3b0,H⟩:=H
 all_goals
  obtain rfl:=Option.some.inj H
  go_enter Try.func86,Try.ntmps86
  go_wp2
  go_ret
  exact ⟨by first | rfl | (simp;done) | (simp [*];done),by repeat (first | exact Drawn0.refl _ | apply Drawn0.step)⟩
def spec_l5Both.f (k : Nat) (l0 : List (S36)) (a1 a2 : Int) : Option (Int × Int × (List (S36))):=(spec_l1Min.f a1 a2).bind fun t141 => ((spec_l1Max.f a1 a2).bind fun t142 => ((spec_l5Put.f k l0 7 t141 t142 0).bind fun bt143 => (some (bt143.1,bt143.2.1,bt143.2.2))))
set_option maxHeartbeats 8000000 in
set_option maxRecDepth 100000 in
theorem spec_l5Both.calls (k : Nat) (A0 : Option Addr) (c0 : Nat) (l0 : List (S36)) (a1 a2 r1 r2 : Int) (r3 : List (S36)) (w : World) (hr0 : Kd.C k36 w A0 l0.length l0) (hc0 : l0.length ≤ c0) (h : spec_l5Both.f k l0 a1 a2 = some (r1,r2,r3)) :
  Calls Try.prog 103 #[.slice A0 l0.length c0,.int .i64 a1,.int .i64 a2] w fun e w' => ∃ v2_ : Value,e = .returned (.agg #[.int .i64 r1,.int .i64 r2,v2_]) ∧ Kd.R k36 36 w' w.heap.size (fun _ => True) v2_ r3 ∧ Below w.heap.size w w':=by
 have hu33:=Try.underlying33
 have hu36:=Try.underlying36
 have HR0:=Z_ hr0
 have HC0:=Z_ hc0
 clear hr0 hc0
 have HB:=Z_ (Below.refl w.heap.size w)
 unfold spec_l5Both.f at h
 have H:=h
 clear h
 replace H:=bS_ H
 obtain ⟨t141,A4,H⟩:=H
 replace H:=bS_ H
 obtain ⟨t142,A5,H⟩:=H
 replace H:=bS_ H
 obtain ⟨⟨t143,t144,t145⟩,A6,H⟩:=H
 try dsimp only at H
 simp only [Option.some.injEq,Prod.mk.injEq] at H
 obtain ⟨rfl,rfl,rfl⟩:=H
 go_enter Try.func103,Try.ntmps103
 go_wp2_with (first | ((with_reducible refine gD_ 6 rfl ?_);refine bx_ #[.int .i64 0,.int .i64 0,.slice none 0 0] 33 ?_;intro gb140 hg w7 hbox hb;have BK140:=Z_ hbox;have GE140:=Z_ ((by rw [hg];exact (below_size HB.out) : w.heap.size ≤ gb140));replace HB:=Z_ (lP_ HB.out hb);clear hb hbox hg) | ((with_reducible refine gate_callee (f:=86) rfl ?_);refine goesA_ (some 10) rfl rfl Try.func86 (by kernel_rfl) rfl #[.int .i64 a1,.int .i64 a2] rfl ?_;(with_reducible refine (spec_l1Min.calls a1 a2 t141 _ A4.out).mono ?_);rintro e w' ⟨rfl,⟨nd,rfl⟩⟩;refine ⟨_,rfl,?_⟩;(try (rw [drewN_self w7];generalize hq_ : World.drewN w7 _ = w7;have n0_ : Aside0 (w7.heap[gb140]? = some (.cells #[.int .i64 0,.int .i64 0,.slice none 0 0] 33 (0,0))):=⟨by rw [← hq_];exact (Bk_ BK140)⟩;have n1_ : Aside0 (Below w.heap.size w w7):=⟨by rw [← hq_];exact Lb_⟩;clear BK140 HB hq_;have BK140:=n0_;have HB:=n1_;clear n0_ n1_))) | ((with_reducible refine gate_callee (f:=37) rfl ?_);refine goesA_ (some 13) rfl rfl Try.func37 (by kernel_rfl) rfl #[.int .i64 a1,.int .i64 a2] rfl ?_;(with_reducible refine (spec_l1Max.calls a1 a2 t142 _ A5.out).mono ?_);rintro e w' ⟨rfl,⟨nd,rfl⟩⟩;refine ⟨_,rfl,?_⟩;(try (rw [drewN_self w7];generalize hq_ : World.drewN w7 _ = w7;have n0_ : Aside0 (w7.heap[gb140]? = some (.cells #[.int .i64 0,.int .i64 0,.slice none 0 0] 33 (0,0))):=⟨by rw [← hq_];exact (Bk_ BK140)⟩;have n1_ : Aside0 (Below w.heap.size w w7):=⟨by rw [← hq_];exact Lb_⟩;clear BK140 HB hq_;have BK140:=n0_;have HB:=n1_;clear n0_ n1_))) | ((with_reducible refine gate_callee (f:=52) rfl ?_);refine goesA_ (some 15) rfl rfl Try.func52 (by kernel_rfl) rfl #[.slice A0 l0.length c0,.agg #[.int .i64 7,.int .i64 t141,.int .i64 t142,.int .i64 0]] rfl ?_;(with_reducible refine (spec_l5Put.calls k _ _ l0 7 t141 t142 0 t143 t144 t145 _ ?side1 ?side2 A6.out).mono ?_);(case side1 => exact Cb_ HR0);(case side2 => exact HC0.out);rintro e w8 ⟨v146,rfl,ho0,hb⟩;refine ⟨_,rfl,?_⟩;have HO147:=Z_ (Kd.R_lower ho0 (below_size Lb_));replace BK140:=Z_ (bB_ (g:=gb140) (o:=.cells #[.int .i64 0,.int .i64 0,.slice none 0 0] 33 (0,0)) (Bk_ BK140) hb);replace HB:=Z_ (lP_ Lb_ hb);(try clear hb);(try clear ho0);obtain ⟨_,_,_,_,_,_⟩:=bc3 BK140.out;obtain ⟨Ao10,co10,eo10⟩:=Kd.R_slice HO147.out;subst eo10))
 refine bodyPost_ret (results_cell_row rfl _ _ gb140 33 #[.int .i64 t143,.int .i64 t144,.slice Ao10 t145.length co10] (0,0) _ rfl (by (with_reducible repeat first | apply bN_ | apply bD_ | apply bA_);apply fill3;(with_reducible repeat first | apply bN_ | apply bD_ | apply bA_);exact BK140.out) Try.underlying33 rfl (by kernel_rfl)) rfl ?_
 exact ⟨_,Er_,by (with_reducible repeat first | apply rA_ | apply rN_ | apply rD_);exact Kd.R_mono (rfar3 (g:=gb140) (Kd.R_types HO147.out BK140.out (by decide)) (fun _ hk => hk.2)) (fun _ hk => trivial),Lb_⟩
mutual
def spec_l5Grow.l0 : Nat → Int → List (S36) → List Int → Int → Option ((List (S36)) × Int)
 | 0,_,_,_,_ => none
 | k + 1,x1,x5,x1000,x1001 => if x1 > 0 then ((spec_l1Max.f 1 (x5.length : Int)).bind fun t151 => ((spec_l1Pick.f x1000 x1001 (([1,2,3,4,5,6,7,3,5] : List Int))).bind fun bt155 => ((spec_l1Next.f x1000 bt155.2 t151).bind fun bt157 => ((spec_l1Next.f x1000 bt157.2 t151).bind fun bt159 => ((spec_l5Kids.f k bt155.1).bind fun t162 => (if t162 = 0 then ((spec_l1Next.f x1000 bt159.2 6).bind fun bt163 => (spec_l5Grow.j1 k x1 x5 x1000 bt163.2 bt155.1 0 0 bt163.1)) else (if t162 = 1 then (spec_l5Grow.j1 k x1 x5 x1000 bt159.2 bt155.1 bt157.1 0 0) else (spec_l5Grow.j1 k x1 x5 x1000 bt159.2 bt155.1 bt157.1 bt159.1 0)))))))) else (some (x5,x1001))
def spec_l5Grow.j1 : Nat → Int → List (S36) → List Int → Int → Int → Int → Int → Int → Option ((List (S36)) × Int)
 | 0,_,_,_,_,_,_,_,_ => none
 | k + 1,x1,x5,x1000,x1001,x162000,x162001,x162002,x162003 => (spec_l5Put.f k x5 x162000 x162001 x162002 x162003).bind fun bt165 => (if x162000 = 7 then ((spec_l5Both.f k x5 x162001 x162002).bind fun bt171 => (if bt171.1 = 0 then (spec_l5Grow.l0 k (wrap64 (x1 - 1)) bt171.2.2 x1000 x1001) else (spec_l5Grow.l0 k (wrap64 (x1 - 1)) x5 x1000 x1001))) else (if bt165.1 = 0 then (spec_l5Grow.l0 k (wrap64 (x1 - 1)) bt165.2.2 x1000 x1001) else (spec_l5Grow.l0 k (wrap64 (x1 - 1)) x5 x1000 x1001)))
end
def spec_l5Grow.f (k : Nat) (s0_0 : List Int) (s0_1 a1 : Int) : Option ((List (S36)) × Int):=spec_l5Grow.l0 k a1 (([] : List (S36))) s0_0 s0_1
set_option maxHeartbeats 8000000 in
set_option maxRecDepth 100000 in
theorem spec_l5Grow.calls (k g : Nat) (s0_0 : List Int) (s0_1 a1 : Int) (r1 : List (S36)) (r2 : Int) (w0 w : World) (hI : IsS117 w0 w g s0_0 s0_1) (hB : Below w0.heap.size w0 w) (h : spec_l5Grow.f k s0_0 s0_1 a1 = some (r1,r2)) :
  Calls Try.prog 75 #[.pointer (some ⟨g,0,none⟩),.int .i64 a1] w fun e w' => ∃ v0_ : Value,e = .returned (v0_) ∧ Kd.R k36 36 w' w.heap.size (fun _ => True) v0_ r1 ∧ IsS117 w0 w' g s0_0 r2 ∧ Below w0.heap.size w0 w' ∧ KeepBut w w' g none:=by
 have hu36:=Try.underlying36
 have hu33:=Try.underlying33
 have HI0:=Z_ hI
 have HK:=Z_ (KeepBut.refl w g none)
 have HL:=Z_ hB.size
 clear hI
 have HW0:=Z_ hB.size
 have HB:=Z_ hB
 clear hB
 unfold spec_l5Grow.f at h
 have H:=h
 clear h
 obtain ⟨y148,hy148⟩ : ∃ y_ : List (S36),y_ = (([] : List (S36))):=⟨_,rfl⟩
 replace H : (spec_l5Grow.l0 k a1 y148 s0_0 s0_1) = some (r1,r2):=by first | (rw [hy148];with_reducible exact H) | (have H2_:=(Option.bind_some _ _).symm.trans H;rw [hy148];with_reducible exact H2_) | (have H2_:=(Option.bind_some _ _).symm.trans H;with_reducible exact H2_) | with_reducible exact H | (rw [hy148];exact H) | exact H
 have aq:=Z_ hy148
 clear hy148
 have H':=Z_ H
 clear H
 go_enter Try.func75,Try.ntmps75
 go_wp2_with (first | ((with_reducible refine gD_ 9 rfl ?_);refine Kd.R_lit k36 _ 36 ?hg (N:=9) ?hd (xs:=([] : List (S36))) (inner:=[]) (ok:=fun _ => True) (okp:=fun _ => True) ?hr ?hp (fun _ hk => hk) trivial (Below.refl _ _) (Nat.le_refl _) (by simp) ?_;(case hd => rfl);(case hg => rfl);(case hr => first | (go_simp;done) | (go_simp;rfl));(case hp => exact (Reps.none _ _));intro v149 w3 ho4 hb hg_ hnew_;clear hg_ hnew_;(first | rw [← aq.out] at ho4 | (simp only [Int.reduceToNat] at ho4;rw [← aq.out] at ho4));have b1:=Z_ (Kd.R_lower ho4 (keep_size (w:=w) (g:=g) (row:=none) (by repeat (first | (with_reducible first | exact HK.out | apply KeepBut.set_) | exact HK.out))));replace HK:=Z_ (KeepBut.trans (by repeat (first | (with_reducible first | exact HK.out | apply KeepBut.set_) | exact HK.out)) (KeepBut.of_below hb g none) (.inl rfl));replace HB:=Z_ (lP_ (by repeat (first | (with_reducible first | exact HB.out | refine lS1_ ?_ (IsS117.ge HI0.out)) | exact HB.out)) hb);replace HI0:=Z_ (IsS117.below (by repeat (first | (with_reducible first | exact HI0.out | apply IsS117.set_1) | exact HI0.out)) hb);clear hb ho4))
 go_loopg [1,5] k (fun kq v1 v5 w' => ∃ (x1_1 : Int) (x5_1 : List (S36)) (x1001_1 : Int),v1 = .int .i64 x1_1 ∧ Aside0 (spec_l5Grow.l0 kq x1_1 x5_1 s0_0 x1001_1 = some (r1,r2)) ∧ Aside0 (kq ≤ k) ∧ Aside0 (Kd.R k36 36 w' w.heap.size (fun _ => True) v5 x5_1) ∧ Aside0 (IsS117 w0 w' g s0_0 x1001_1) ∧ Aside0 (KeepBut w w' g none) ∧ Aside0 (Below w0.heap.size w0 w'))
 case atStart => exact ⟨(a1),(y148),(s0_1),Sr_,H',⟨Nat.le_refl _⟩,⟨Rk_ b1⟩,⟨by repeat (first | (with_reducible first | exact HI0.out | apply IsS117.alloc | apply IsS117.drewN | apply IsS117.drew | apply IsS117.set_1) | exact HI0.out)⟩,⟨by repeat (first | (with_reducible first | exact HK.out | apply KeepBut.set_ | apply kN_ | apply kD_ | apply kA_) | exact HK.out)⟩,⟨by repeat (first | (with_reducible first | exact HB.out | apply lA1_ | apply lN_ | apply lD_ | refine lS1_ ?_ (IsS117.ge HI0.out)) | exact HB.out)⟩⟩
 case round =>
  clear H'
  try clear p2
  obtain ⟨x1_1,x5_1,x1001_1,rfl,HA,HK1,a3,HI0,HK,HB⟩:=hrel
  cases gk with
  | zero => exact absurd HA.out (by simp [spec_l5Grow.l0])
  | succ k1 =>
   have H:=HA.out
   clear HA
   simp only [spec_l5Grow.l0] at H
   replace H:=iC_ H
   obtain ⟨c5,H⟩ | ⟨c5,H⟩:=H
   rotate_left
   ·have c5b0 : decide (0 < x1_1) = false:=decide_eq_false c5
    clear c5
    simp only [Option.some.injEq,Prod.mk.injEq] at H
    obtain ⟨rfl,rfl⟩:=H
    go_wp2
    go_ret
    exact ⟨_,Er_,Rk_ a3,by repeat (first | (with_reducible first | exact HI0.out | apply IsS117.alloc | apply IsS117.drewN | apply IsS117.drew | apply IsS117.set_1) | exact HI0.out),by repeat (first | (with_reducible first | exact HB.out | apply lA1_ | apply lN_ | apply lD_ | refine lS1_ ?_ (IsS117.ge HI0.out)) | exact HB.out),by repeat (first | (with_reducible first | exact HK.out | apply KeepBut.set_ | apply kN_ | apply kD_ | apply kA_) | exact HK.out)⟩
   rotate_right
   have c5b0 : decide (0 < x1_1) = true:=decide_eq_true c5
   clear c5
   replace H:=bS_ H
   obtain ⟨t151,A6,H⟩:=H
   obtain ⟨y152,hy152⟩ : ∃ y_ : List Int,y_ = (([1,2,3,4,5,6,7,3,5] : List Int)):=⟨_,rfl⟩
   replace H : ((spec_l1Pick.f s0_0 x1001_1 y152).bind fun bt155 => ((spec_l1Next.f s0_0 bt155.2 t151).bind fun bt157 => ((spec_l1Next.f s0_0 bt157.2 t151).bind fun bt159 => ((spec_l5Kids.f k1 bt155.1).bind fun t162 => (if t162 = 0 then ((spec_l1Next.f s0_0 bt159.2 6).bind fun bt163 => (spec_l5Grow.j1 k1 x1_1 x5_1 s0_0 bt163.2 bt155.1 0 0 bt163.1)) else (if t162 = 1 then (spec_l5Grow.j1 k1 x1_1 x5_1 s0_0 bt159.2 bt155.1 bt157.1 0 0) else (spec_l5Grow.j1 k1 x1_1 x5_1 s0_0 bt159.2 bt155.1 bt157.1 bt159.1 0))))))) = some (r1,r2):=by first | (rw [hy152];with_reducible exact H) | (have H2_:=(Option.bind_some _ _).symm.trans H;rw [hy152];with_reducible exact H2_) | (have H2_:=(Option.bind_some _ _).symm.trans H;with_reducible exact H2_) | with_reducible exact H | (rw [hy152];exact H) | exact H
   have ar:=Z_ hy152
   clear hy152
   replace H:=bS_ H
   obtain ⟨⟨t155,t156⟩,A7,H⟩:=H
   try dsimp only at H
   replace H:=bS_ H
   obtain ⟨⟨t157,t158⟩,A8,H⟩:=H
   try dsimp only at H
   replace H:=bS_ H
   obtain ⟨⟨t159,t160⟩,A9,H⟩:=H
   try dsimp only at H
   replace H:=bS_ H
   obtain ⟨t162,b7,H⟩:=H
   have al:=Z_ H
   clear H
   obtain ⟨aj,ai,eo12⟩:=Kd.R_slice a3.out
   subst eo12
   go_upto_block 2 with (first | ((with_reducible refine gate_callee (f:=37) rfl ?_);refine goesA_ (some 16) rfl rfl Try.func37 (by kernel_rfl) rfl #[.int .i64 1,.int .i64 (x5_1.length : Int)] rfl ?_;(with_reducible refine (spec_l1Max.calls 1 (x5_1.length : Int) t151 _ A6.out).mono ?_);rintro e w' ⟨rfl,⟨nd,rfl⟩⟩;refine ⟨_,rfl,?_⟩;(try (rw [drewN_self wr];generalize hq_ : World.drewN wr _ = wr;have n0_ : Aside0 (Kd.R k36 36 wr w.heap.size (fun _ => True) (.slice aj x5_1.length ai) x5_1):=⟨by rw [← hq_];exact (Rk_ a3)⟩;have n1_ : Aside0 (IsS117 w0 wr g s0_0 x1001_1):=⟨by rw [← hq_];exact (by repeat (first | (with_reducible first | exact HI0.out | apply IsS117.alloc | apply IsS117.drewN | apply IsS117.drew | apply IsS117.set_1) | exact HI0.out))⟩;have n2_ : Aside0 (KeepBut w wr g none):=⟨by rw [← hq_];exact (by repeat (first | (with_reducible first | exact HK.out | apply KeepBut.set_ | apply kN_ | apply kD_ | apply kA_) | exact HK.out))⟩;have n3_ : Aside0 (Below w0.heap.size w0 wr):=⟨by rw [← hq_];exact (by repeat (first | (with_reducible first | exact HB.out | apply lA1_ | apply lN_ | apply lD_ | refine lS1_ ?_ (IsS117.ge HI0.out)) | exact HB.out))⟩;clear a3 HI0 HK HB hq_;have a3:=n0_;have HI0:=n1_;have HK:=n2_;have HB:=n3_;clear n0_ n1_ n2_ n3_))) | ((with_reducible refine gate_dst (N:=18) rfl ?_);refine Kd.R_lit (Kd.int .i64) _ 2 ?hg (N:=18) ?hd (xs:=([1,2,3,4,5,6,7,3,5] : List Int)) (inner:=[.int .i64 1,.int .i64 2,.int .i64 3,.int .i64 4,.int .i64 5,.int .i64 6,.int .i64 7,.int .i64 3,.int .i64 5]) (ok:=fun _ => True) (okp:=fun _ => True) ?hr ?hp (fun _ hk => hk) trivial (Below.refl _ _) (Nat.le_refl _) (by simp) ?_;(case hd => rfl);(case hg => rfl);(case hr => first | (go_simp;done) | (go_simp;rfl));(case hp => exact (Reps.one (show Kd.M (Kd.int .i64) _ _ _ 1 [.int .i64 1] from rfl) (Reps.one (show Kd.M (Kd.int .i64) _ _ _ 2 [.int .i64 2] from rfl) (Reps.one (show Kd.M (Kd.int .i64) _ _ _ 3 [.int .i64 3] from rfl) (Reps.one (show Kd.M (Kd.int .i64) _ _ _ 4 [.int .i64 4] from rfl) (Reps.one (show Kd.M (Kd.int .i64) _ _ _ 5 [.int .i64 5] from rfl) (Reps.one (show Kd.M (Kd.int .i64) _ _ _ 6 [.int .i64 6] from rfl) (Reps.one (show Kd.M (Kd.int .i64) _ _ _ 7 [.int .i64 7] from rfl) (Reps.one (show Kd.M (Kd.int .i64) _ _ _ 3 [.int .i64 3] from rfl) (Reps.one (show Kd.M (Kd.int .i64) _ _ _ 5 [.int .i64 5] from rfl) (Reps.none _ _)))))))))));intro v153 w13 ho14 hb hg_ hnew_;clear hg_ hnew_;(first | rw [← ar.out] at ho14 | (simp only [Int.reduceToNat] at ho14;rw [← ar.out] at ho14));have n0_:=Z_ (Kd.R_below (Rk_ a3) hb);have n1_:=Z_ (Kd.R_lower ho14 (keep_size (w:=w) (g:=g) (row:=none) (by repeat (first | (with_reducible first | exact HK.out | apply KeepBut.set_ | apply kN_ | apply kD_ | apply kA_) | exact HK.out))));have n2_:=Z_ (IsS117.below (by repeat (first | (with_reducible first | exact HI0.out | apply IsS117.alloc | apply IsS117.drewN | apply IsS117.drew | apply IsS117.set_1) | exact HI0.out)) hb);have n3_:=Z_ (KeepBut.trans (by repeat (first | (with_reducible first | exact HK.out | apply KeepBut.set_ | apply kN_ | apply kD_ | apply kA_) | exact HK.out)) (KeepBut.of_below hb g none) (.inl rfl));have n4_:=Z_ (lP_ (by repeat (first | (with_reducible first | exact HB.out | apply lA1_ | apply lN_ | apply lD_ | refine lS1_ ?_ (IsS117.ge HI0.out)) | exact HB.out)) hb);clear a3 HI0 HK HB;have a3:=n0_;have a6:=n1_;have HI0:=n2_;have HK:=n3_;have HB:=n4_;clear n0_ n1_ n2_ n3_ n4_ hb ho14;obtain ⟨aw,ax,eo15⟩:=Kd.R_slice a6.out;subst eo15) | ((with_reducible refine gate_callee (f:=40) rfl ?_);refine goesA_ (some 19) rfl rfl Try.func40 (by kernel_rfl) rfl #[.pointer (some ⟨g,0,none⟩),.slice aw y152.length ax] rfl ?_;(with_reducible refine (spec_l1Pick.calls g s0_0 x1001_1 _ _ y152 t155 t156 w0 _ ?side1 ?side2 ?side3 ?side4 ?side5 A7.out).mono ?_);(case side1 => repeat (first | (with_reducible first | exact HI0.out | apply IsS117.alloc | apply IsS117.drewN | apply IsS117.drew | apply IsS117.set_1) | exact HI0.out));(case side2 => repeat (first | (with_reducible first | exact HB.out | apply lA1_ | apply lN_ | apply lD_ | refine lS1_ ?_ (IsS117.ge HI0.out)) | exact HB.out));(case side3 => exact Rc_ a6);(case side4 => exact (Kd.R_reads' a6.out).2.1);(case side5 => exact far_slice (IsS117.own_ne HI0.out a6.out (by decide)));rintro e w16 ⟨rfl,hi,hb,hk⟩;refine ⟨_,rfl,?_⟩;have n0_:=Z_ (Kd.R_mono (Kd.R_keep (IsS117.apart (show IsS117 w0 _ g s0_0 x1001_1 from by repeat (first | (with_reducible first | exact HI0.out | apply IsS117.alloc | apply IsS117.drewN | apply IsS117.drew | apply IsS117.set_1) | exact HI0.out)) (Rk_ a3) (by decide)) hk (fun _ h => h.2)) (fun _ h => h.1));have n1_:=Z_ (Kd.R_mono (Kd.R_keep (IsS117.apart (show IsS117 w0 _ g s0_0 x1001_1 from by repeat (first | (with_reducible first | exact HI0.out | apply IsS117.alloc | apply IsS117.drewN | apply IsS117.drew | apply IsS117.set_1) | exact HI0.out)) (Rk_ a6) (by decide)) hk (fun _ h => h.2)) (fun _ h => h.1));have n2_:=Z_ (KeepBut.trans (by repeat (first | (with_reducible first | exact HK.out | apply KeepBut.set_ | apply kN_ | apply kD_ | apply kA_) | exact HK.out)) hk (.inl rfl));have n3_:=Z_ (hb);have n4_:=Z_ (hi);clear a3 a6 HK HB HI0;have a3:=n0_;have a6:=n1_;have HK:=n2_;have HB:=n3_;have HI0:=n4_;clear n0_ n1_ n2_ n3_ n4_;(try clear hb);(try clear hb2);(try clear hk);(try clear hi)) | ((with_reducible refine gate_callee (f:=39) rfl ?_);refine goesA_ (some 22) rfl rfl Try.func39 (by kernel_rfl) rfl #[.pointer (some ⟨g,0,none⟩),.int .i64 t151] rfl ?_;(with_reducible refine (spec_l1Next.calls g s0_0 t156 t151 t157 t158 w0 _ ?side1 ?side2 A8.out).mono ?_);(case side1 => repeat (first | (with_reducible first | exact HI0.out | apply IsS117.alloc | apply IsS117.drewN | apply IsS117.drew | apply IsS117.set_1) | exact HI0.out));(case side2 => repeat (first | (with_reducible first | exact HB.out | apply lA1_ | apply lN_ | apply lD_ | refine lS1_ ?_ (IsS117.ge HI0.out)) | exact HB.out));rintro e w17 ⟨rfl,hi,hb,hk⟩;refine ⟨_,rfl,?_⟩;have n0_:=Z_ (Kd.R_mono (Kd.R_keep (IsS117.apart (show IsS117 w0 _ g s0_0 t156 from by repeat (first | (with_reducible first | exact HI0.out | apply IsS117.alloc | apply IsS117.drewN | apply IsS117.drew | apply IsS117.set_1) | exact HI0.out)) (Rk_ a3) (by decide)) hk (fun _ h => h.2)) (fun _ h => h.1));have n1_:=Z_ (Kd.R_mono (Kd.R_keep (IsS117.apart (show IsS117 w0 _ g s0_0 t156 from by repeat (first | (with_reducible first | exact HI0.out | apply IsS117.alloc | apply IsS117.drewN | apply IsS117.drew | apply IsS117.set_1) | exact HI0.out)) (Rk_ a6) (by decide)) hk (fun _ h => h.2)) (fun _ h => h.1));have n2_:=Z_ (KeepBut.trans (by repeat (first | (with_reducible first | exact HK.out | apply KeepBut.set_ | apply kN_ | apply kD_ | apply kA_) | exact HK.out)) hk (.inl rfl));have n3_:=Z_ (hb);have n4_:=Z_ (hi);clear a3 a6 HK HB HI0;have a3:=n0_;have a6:=n1_;have HK:=n2_;have HB:=n3_;have HI0:=n4_;clear n0_ n1_ n2_ n3_ n4_;(try clear hb);(try clear hb2);(try clear hk);(try clear hi)) | ((with_reducible refine gate_callee (f:=39) rfl ?_);refine goesA_ (some 25) rfl rfl Try.func39 (by kernel_rfl) rfl #[.pointer (some ⟨g,0,none⟩),.int .i64 t151] rfl ?_;(with_reducible refine (spec_l1Next.calls g s0_0 t158 t151 t159 t160 w0 _ ?side1 ?side2 A9.out).mono ?_);(case side1 => repeat (first | (with_reducible first | exact HI0.out | apply IsS117.alloc | apply IsS117.drewN | apply IsS117.drew | apply IsS117.set_1) | exact HI0.out));(case side2 => repeat (first | (with_reducible first | exact HB.out | apply lA1_ | apply lN_ | apply lD_ | refine lS1_ ?_ (IsS117.ge HI0.out)) | exact HB.out));rintro e w18 ⟨rfl,hi,hb,hk⟩;refine ⟨_,rfl,?_⟩;have n0_:=Z_ (Kd.R_mono (Kd.R_keep (IsS117.apart (show IsS117 w0 _ g s0_0 t158 from by repeat (first | (with_reducible first | exact HI0.out | apply IsS117.alloc | apply IsS117.drewN | apply IsS117.drew | apply IsS117.set_1) | exact HI0.out)) (Rk_ a3) (by decide)) hk (fun _ h => h.2)) (fun _ h => h.1));have n1_:=Z_ (Kd.R_mono (Kd.R_keep (IsS117.apart (show IsS117 w0 _ g s0_0 t158 from by repeat (first | (with_reducible first | exact HI0.out | apply IsS117.alloc | apply IsS117.drewN | apply IsS117.drew | apply IsS117.set_1) | exact HI0.out)) (Rk_ a6) (by decide)) hk (fun _ h => h.2)) (fun _ h => h.1));have n2_:=Z_ (KeepBut.trans (by repeat (first | (with_reducible first | exact HK.out | apply KeepBut.set_ | apply kN_ | apply kD_ | apply kA_) | exact HK.out)) hk (.inl rfl));have n3_:=Z_ (hb);have n4_:=Z_ (hi);clear a3 a6 HK HB HI0;have a3:=n0_;have a6:=n1_;have HK:=n2_;have HB:=n3_;have HI0:=n4_;clear n0_ n1_ n2_ n3_ n4_;(try clear hb);(try clear hb2);(try clear hk);(try clear hi)) | ((with_reducible refine gate_dst (N:=7) rfl ?_);refine box_event ?hg (N:=7) ?hd (cs:=#[.int .i64 0,.int .i64 0,.int .i64 0,.int .i64 0]) (t:=36) ?hr ?_;(case hd => rfl);(case hg => rfl);(case hr => first | (go_simp;done) | (go_simp;rfl));intro a2 hg w19 hbox hb;have n0_:=Z_ (Kd.R_below (Kd.R_elderB (Rk_ a3) a2 (Nat.le_of_eq hg.symm)) hb);have n1_:=Z_ (Kd.R_below (Rk_ a6) hb);have n2_:=Z_ (IsS117.below (by repeat (first | (with_reducible first | exact HI0.out | apply IsS117.alloc | apply IsS117.drewN | apply IsS117.drew | apply IsS117.set_1) | exact HI0.out)) hb);have n3_:=Z_ (KeepBut.trans (by repeat (first | (with_reducible first | exact HK.out | apply KeepBut.set_ | apply kN_ | apply kD_ | apply kA_) | exact HK.out)) (KeepBut.of_below hb g none) (.inl rfl));have n4_:=Z_ (lP_ (by repeat (first | (with_reducible first | exact HB.out | apply lA1_ | apply lN_ | apply lD_ | refine lS1_ ?_ (IsS117.ge HI0.out)) | exact HB.out)) hb);have n5_:=Z_ hbox;have n6_:=Z_ ((by rw [hg];exact (keep_size (w:=w) (g:=g) (row:=none) (by repeat (first | (with_reducible first | exact HK.out | apply KeepBut.set_ | apply kN_ | apply kD_ | apply kA_) | exact HK.out))) : w.heap.size ≤ a2));have n7_:=Z_ ((Nat.le_trans HW0.out (by rw [hg];exact (keep_size (w:=w) (g:=g) (row:=none) (by repeat (first | (with_reducible first | exact HK.out | apply KeepBut.set_ | apply kN_ | apply kD_ | apply kA_) | exact HK.out))) : w.heap.size ≤ a2) : w0.heap.size ≤ a2));have n8_:=Z_ ((by rw [hg];exact Nat.ne_of_lt (IsS117.lt (show IsS117 w0 _ g s0_0 t160 from by repeat (first | (with_reducible first | exact HI0.out | apply IsS117.alloc | apply IsS117.drewN | apply IsS117.drew | apply IsS117.set_1) | exact HI0.out))) : g ≠ a2));have n9_:=Z_ ((by rw [hg];exact Nat.ne_of_gt (IsS117.lt (show IsS117 w0 _ g s0_0 t160 from by repeat (first | (with_reducible first | exact HI0.out | apply IsS117.alloc | apply IsS117.drewN | apply IsS117.drew | apply IsS117.set_1) | exact HI0.out))) : a2 ≠ g));clear a3 a6 HI0 HK HB;have a3:=n0_;have a6:=n1_;have HI0:=n2_;have HK:=n3_;have HB:=n4_;have a0:=n5_;have a8:=n6_;have ac:=n7_;have a5:=n8_;have af:=n9_;clear n0_ n1_ n2_ n3_ n4_ n5_ n6_ n7_ n8_ n9_ hb hbox hg;have b9:=af.out;have ba:=a5.out;obtain ⟨_,_,_,_,_,_,_,_⟩:=bc4 a0.out) | ((with_reducible refine gate_callee (f:=101) rfl ?_);refine goesA_ (some 29) rfl rfl Try.func101 (by kernel_rfl) rfl #[.int .i64 t155] rfl ?_;(with_reducible refine (spec_l5Kids.calls k1 t155 t162 _ b7.out).mono ?_);rintro e w' ⟨rfl,⟨nd,rfl⟩⟩;refine ⟨_,rfl,?_⟩))
   (try simp only [Act.put,lA_,lZ_,lS_])
   go_cut [] (fun wc => ∃ (kq : Nat) (x1001_10 : Int) (x162000_10 : Int) (x162001_10 : Int) (x162002_10 : Int) (x162003_10 : Int),Aside0 (spec_l5Grow.j1 kq x1_1 x5_1 s0_0 x1001_10 x162000_10 x162001_10 x162002_10 x162003_10 = some (r1,r2)) ∧ Aside0 (kq ≤ k1) ∧ Aside0 (Kd.R k36 36 wc w.heap.size (fun k_ => k_ ≠ a2) (.slice aj x5_1.length ai) x5_1) ∧ Aside0 (wc.heap[a2]? = some (.cells #[.int .i64 x162000_10,.int .i64 x162001_10,.int .i64 x162002_10,.int .i64 x162003_10] 36 (0,0))) ∧ Aside0 (IsS117 w0 wc g s0_0 x1001_10) ∧ Aside0 (KeepBut w wc g none) ∧ Aside0 (Below w0.heap.size w0 wc))
   case first =>
    have H:=al.out
    clear al
    replace H:=iE_ H
    obtain ⟨c22b0,c22b1,H⟩ | ⟨c22b0,c22b1,H⟩:=H
    rotate_left
    ·(first | rw [c22b0] | (simp only [i64_w,i32_w];rw [c22b0]) | skip)
     replace H:=iE_ H
     obtain ⟨c31b0,c31b1,H⟩ | ⟨c31b0,c31b1,H⟩:=H
     rotate_left
     ·have H':=Z_ H
      clear H
      go_wp2
      go_meet
      case rel => exact ⟨_,(t160),(t155),(t157),(t159),(0),H',⟨by have:=HK1.out;first | omega | exact Nat.le_refl _⟩,⟨by (with_reducible repeat first | apply rA_ | apply rN_ | apply rD_);exact Kd.R_mono (rfar4 (g:=a2) (Kd.R_mono a3.out (fun k_ hk => (⟨hk,hk.2⟩ : _ ∧ k_ ≠ a2))) (fun _ hk => hk.2)) (fun _ hk => hk.1.2)⟩,⟨by (with_reducible repeat first | apply bN_ | apply bD_ | apply bA_);apply fill4;(with_reducible repeat first | apply bN_ | apply bD_ | apply bA_);exact a0.out⟩,⟨by repeat (first | (with_reducible first | exact HI0.out | apply IsS117.alloc | apply IsS117.drewN | apply IsS117.drew | apply IsS117.set_1 | refine IsS117.far ?_ a5.out _) | exact HI0.out)⟩,⟨by repeat (first | (with_reducible first | exact HK.out | apply KeepBut.set_ | apply kN_ | apply kD_ | apply kA_ | refine kF_ ?_ a8.out _) | exact HK.out)⟩,⟨by repeat (first | (with_reducible first | exact HB.out | apply lA1_ | apply lN_ | apply lD_ | refine lS1_ ?_ (IsS117.ge HI0.out) | refine lS1_ ?_ ac.out) | exact HB.out)⟩⟩
     rotate_right
     have H':=Z_ H
     clear H
     have bb:=af.out
     have bc:=a5.out
     obtain ⟨_,_,_,_,_,_,_,_⟩:=bc4 a0.out
     go_wp2
     go_meet
     case rel => exact ⟨_,(t160),(t155),(t157),(0),(0),H',⟨by have:=HK1.out;first | omega | exact Nat.le_refl _⟩,⟨by (with_reducible repeat first | apply rA_ | apply rN_ | apply rD_);exact Kd.R_mono (Kd.R_far (p:=⟨a2,2,none⟩) (rfar4 (g:=a2) (Kd.R_mono a3.out (fun k_ hk => (⟨hk,hk.2⟩ : _ ∧ k_ ≠ a2))) (fun _ hk => hk.2)) (fun _ hk => hk.2) (.int .i64 0)) (fun _ hk => hk.1.2)⟩,⟨by (with_reducible repeat first | apply bN_ | apply bD_ | apply bA_);refine blk_put (cs:=#[.int .i64 t155,.int .i64 t157,.int .i64 t159,.int .i64 0]) ?_ 2 _ rfl;(with_reducible repeat first | apply bN_ | apply bD_ | apply bA_);apply fill4;(with_reducible repeat first | apply bN_ | apply bD_ | apply bA_);exact a0.out⟩,⟨by repeat (first | (with_reducible first | exact HI0.out | apply IsS117.alloc | apply IsS117.drewN | apply IsS117.drew | apply IsS117.set_1 | refine IsS117.far ?_ a5.out _) | exact HI0.out)⟩,⟨by repeat (first | (with_reducible first | exact HK.out | apply KeepBut.set_ | apply kN_ | apply kD_ | apply kA_ | refine kF_ ?_ a8.out _) | exact HK.out)⟩,⟨by repeat (first | (with_reducible first | exact HB.out | apply lA1_ | apply lN_ | apply lD_ | refine lS1_ ?_ (IsS117.ge HI0.out) | refine lS1_ ?_ ac.out) | exact HB.out)⟩⟩
    rotate_right
    (first | rw [c22b0] | (simp only [i64_w,i32_w];rw [c22b0]) | skip)
    replace H:=bS_ H
    obtain ⟨⟨t163,t164⟩,b8,H⟩:=H
    try dsimp only at H
    have H':=Z_ H
    clear H
    try go_wp2
    have n0_ : Aside0 (Kd.R k36 36 ((((w19.setCell ⟨a2,0,none⟩ (.int .i64 t155)).setCell ⟨a2,1,none⟩ (.int .i64 t157)).setCell ⟨a2,2,none⟩ (.int .i64 t159)).setCell ⟨a2,3,none⟩ (.int .i64 0)) w.heap.size (fun k_ => k_ ≠ a2) (.slice aj x5_1.length ai) x5_1):=⟨by (with_reducible repeat first | apply rA_ | apply rN_ | apply rD_);exact Kd.R_mono (rfar4 (g:=a2) (Kd.R_mono a3.out (fun k_ hk => (⟨hk,hk.2⟩ : _ ∧ k_ ≠ a2))) (fun _ hk => hk.2)) (fun _ hk => hk.1.2)⟩
    have n1_ : Aside0 (Kd.R (Kd.int .i64) 2 ((((w19.setCell ⟨a2,0,none⟩ (.int .i64 t155)).setCell ⟨a2,1,none⟩ (.int .i64 t157)).setCell ⟨a2,2,none⟩ (.int .i64 t159)).setCell ⟨a2,3,none⟩ (.int .i64 0)) w.heap.size (fun _ => True) (.slice aw y152.length ax) y152):=⟨by (with_reducible repeat first | apply rA_ | apply rN_ | apply rD_);exact Kd.R_mono (rfar4 (g:=a2) (Kd.R_types a6.out a0.out (by decide)) (fun _ hk => hk.2)) (fun _ hk => trivial)⟩
    have n2_ : Aside0 (((((w19.setCell ⟨a2,0,none⟩ (.int .i64 t155)).setCell ⟨a2,1,none⟩ (.int .i64 t157)).setCell ⟨a2,2,none⟩ (.int .i64 t159)).setCell ⟨a2,3,none⟩ (.int .i64 0)).heap[a2]? = some (.cells #[.int .i64 t155,.int .i64 t157,.int .i64 t159,.int .i64 0] 36 (0,0))):=⟨by (with_reducible repeat first | apply bN_ | apply bD_ | apply bA_);apply fill4;(with_reducible repeat first | apply bN_ | apply bD_ | apply bA_);exact a0.out⟩
    have n3_ : Aside0 (IsS117 w0 ((((w19.setCell ⟨a2,0,none⟩ (.int .i64 t155)).setCell ⟨a2,1,none⟩ (.int .i64 t157)).setCell ⟨a2,2,none⟩ (.int .i64 t159)).setCell ⟨a2,3,none⟩ (.int .i64 0)) g s0_0 t160):=⟨by repeat (first | (with_reducible first | exact HI0.out | apply IsS117.alloc | apply IsS117.drewN | apply IsS117.drew | apply IsS117.set_1 | refine IsS117.far ?_ a5.out _) | exact HI0.out)⟩
    have n4_ : Aside0 (KeepBut w ((((w19.setCell ⟨a2,0,none⟩ (.int .i64 t155)).setCell ⟨a2,1,none⟩ (.int .i64 t157)).setCell ⟨a2,2,none⟩ (.int .i64 t159)).setCell ⟨a2,3,none⟩ (.int .i64 0)) g none):=⟨by repeat (first | (with_reducible first | exact HK.out | apply KeepBut.set_ | apply kN_ | apply kD_ | apply kA_ | refine kF_ ?_ a8.out _) | exact HK.out)⟩
    have n5_ : Aside0 (Below w0.heap.size w0 ((((w19.setCell ⟨a2,0,none⟩ (.int .i64 t155)).setCell ⟨a2,1,none⟩ (.int .i64 t157)).setCell ⟨a2,2,none⟩ (.int .i64 t159)).setCell ⟨a2,3,none⟩ (.int .i64 0))):=⟨by repeat (first | (with_reducible first | exact HB.out | apply lA1_ | apply lN_ | apply lD_ | refine lS1_ ?_ (IsS117.ge HI0.out) | refine lS1_ ?_ ac.out) | exact HB.out)⟩
    (try clear a3)
    (try clear a6)
    (try clear a0)
    (try clear HI0)
    (try clear HK)
    (try clear HB)
    generalize ((((w19.setCell ⟨a2,0,none⟩ (.int .i64 t155)).setCell ⟨a2,1,none⟩ (.int .i64 t157)).setCell ⟨a2,2,none⟩ (.int .i64 t159)).setCell ⟨a2,3,none⟩ (.int .i64 0)) = w24 at n0_ n1_ n2_ n3_ n4_ n5_ ⊢
    have a3:=n0_
    have a6:=n1_
    have a0:=n2_
    have HI0:=n3_
    have HK:=n4_
    have HB:=n5_
    clear n0_ n1_ n2_ n3_ n4_ n5_
    have m0_:=Z_ (rN_ a3.out nd)
    have m1_:=Z_ (rN_ a6.out nd)
    have m2_:=Z_ (bN_ a0.out nd)
    have m3_:=Z_ (IsS117.drewN HI0.out nd)
    have m4_:=Z_ (kN_ HK.out nd)
    have m5_:=Z_ (lN_ HB.out nd)
    clear a3 a6 a0 HI0 HK HB
    generalize World.drewN w24 nd = w24 at m0_ m1_ m2_ m3_ m4_ m5_ ⊢
    have a3:=m0_
    have a6:=m1_
    have a0:=m2_
    have HI0:=m3_
    have HK:=m4_
    have HB:=m5_
    clear m0_ m1_ m2_ m3_ m4_ m5_
    replace a3:=Z_ (rD_ a3.out)
    replace a6:=Z_ (rD_ a6.out)
    replace a0:=Z_ (bD_ a0.out)
    replace HI0:=Z_ (IsS117.drew HI0.out)
    replace HK:=Z_ (kD_ HK.out)
    replace HB:=Z_ (lD_ HB.out)
    refine start_ (n:=6) (S:=fun w' => w'.cell? ⟨a2,0,none⟩ = some (.int .i64 t155) ∧ w'.cell? ⟨a2,1,none⟩ = some (.int .i64 t157) ∧ w'.cell? ⟨a2,2,none⟩ = some (.int .i64 t159) ∧ w'.cell? ⟨a2,3,none⟩ = some (.int .i64 0)) (ds:=[5]) (Bt 6 0) (by kernel_rfl) rfl rfl ⟨(blk_cell a0.out 0).trans rfl,(blk_cell a0.out 1).trans rfl,(blk_cell a0.out 2).trans rfl,(blk_cell a0.out 3).trans rfl⟩ (fun hHeld => ?_)
    generalize w24.drew = w25 at a3 a6 a0 HI0 HK HB hHeld ⊢
    refine pu_ 0 (some 32) (Bt 6 1) (by kernel_rfl) ?_
    refine pu_ 2 (some 34) (Bt 6 5) (by kernel_rfl) ?_
    refine ta_ 1 (some 33) (Bt 6 7) (by kernel_rfl) hHeld ?_
    refine one_ (i:=3) (N:=some 35) (Bt 6 15) rfl rfl (by kernel_rfl) (by decide) (fun K hK => ?_)
    refine goes_ Try.func39 (by kernel_rfl) rfl #[.pointer (some ⟨g,0,none⟩),.int .i64 6] (by rfl) rfl rfl (by (try simp only [List.map_toArray,List.map_cons,List.map_nil]);first | done | rfl | (simp only [List.length_drop,List.length_take];rfl)) ?_
    with_reducible refine (spec_l1Next.calls g s0_0 t160 6 t163 t164 w0 _ ?side1 ?side2 b8.out).mono ?_
    (case side1 => repeat (first | (with_reducible first | exact HI0.out | apply IsS117.alloc | apply IsS117.drewN | apply IsS117.drew | apply IsS117.set_1 | refine IsS117.far ?_ a5.out _) | exact HI0.out))
    (case side2 => repeat (first | (with_reducible first | exact HB.out | apply lA1_ | apply lN_ | apply lD_ | refine lS1_ ?_ (IsS117.ge HI0.out) | refine lS1_ ?_ ac.out) | exact HB.out))
    rintro e w26 ⟨rfl,hi,hb,hk⟩
    refine ⟨_,rfl,?_⟩
    have n0_:=Z_ (Kd.R_mono (Kd.R_keep (IsS117.apart (show IsS117 w0 _ g s0_0 t160 from by repeat (first | (with_reducible first | exact HI0.out | apply IsS117.alloc | apply IsS117.drewN | apply IsS117.drew | apply IsS117.set_1 | refine IsS117.far ?_ a5.out _) | exact HI0.out)) (Rk_ a3) (by decide)) hk (fun _ h => h.2)) (fun _ h => h.1))
    have n1_:=Z_ (Kd.R_mono (Kd.R_keep (IsS117.apart (show IsS117 w0 _ g s0_0 t160 from by repeat (first | (with_reducible first | exact HI0.out | apply IsS117.alloc | apply IsS117.drewN | apply IsS117.drew | apply IsS117.set_1 | refine IsS117.far ?_ a5.out _) | exact HI0.out)) (Rk_ a6) (by decide)) hk (fun _ h => h.2)) (fun _ h => h.1))
    have n2_:=Z_ (KeepBut.blk hk (g':=a2) (o:=.cells #[.int .i64 t155,.int .i64 t157,.int .i64 t159,.int .i64 0] 36 (0,0)) (Bk_ a0) af.out (by simp))
    have n3_:=Z_ (KeepBut.trans (by repeat (first | (with_reducible first | exact HK.out | apply KeepBut.set_ | apply kN_ | apply kD_ | apply kA_ | refine kF_ ?_ a8.out _) | exact HK.out)) hk (.inl rfl))
    have n4_:=Z_ (hb)
    have n5_:=Z_ (hi)
    clear a3
    clear a6
    clear a0
    clear HK
    clear HB
    clear HI0
    have a3:=n0_
    have a6:=n1_
    have a0:=n2_
    have HK:=n3_
    have HB:=n4_
    have HI0:=n5_
    clear n0_ n1_ n2_ n3_ n4_ n5_
    (try clear hb)
    (try clear hb2)
    (try clear hk)
    (try clear hi)
    refine hK.out _ _ ⟨(blk_cell a0.out 0).trans rfl,(blk_cell a0.out 1).trans rfl,(blk_cell a0.out 2).trans rfl,(blk_cell a0.out 3).trans rfl⟩ (fun hHeld => ?_)
    clear hK K
    refine norm_ (a':=?_) ?_ ?_
    rotate_left
    ·show Act.put _ (some 35) _ = _
     simp only [Act.put,lA_,lZ_,lS_,i64_w,i32_w]
     rfl
    refine pu_ 4 (some 36) (Bt 6 31) (by kernel_rfl) ?_
    refine last_ (i:=5) (N:=none) (Bt 6 63) rfl rfl (by kernel_rfl) (by decide) (fun K hK => ?_)
    have hs27 : w26.cell? ⟨a2,0,none⟩ = some (.int .i64 t155):=(blk_cell a0.out 0).trans rfl
    have hfs27:=blk_frozen a0.out 0
    have hs28 : w26.cell? ⟨a2,1,none⟩ = some (.int .i64 t157):=(blk_cell a0.out 1).trans rfl
    have hfs28:=blk_frozen a0.out 1
    have hs29 : w26.cell? ⟨a2,2,none⟩ = some (.int .i64 t159):=(blk_cell a0.out 2).trans rfl
    have hfs29:=blk_frozen a0.out 2
    have hs30 : w26.cell? ⟨a2,3,none⟩ = some (.int .i64 0):=(blk_cell a0.out 3).trans rfl
    have hfs30:=blk_frozen a0.out 3
    refine skip_ (w1:=?_) (by rfl) rfl ?_ ?_
    rotate_left
    ·go_simp
     rfl
    refine hK.out _ _ ?_
    clear hK K
    refine done_ (by kernel_rfl) ?_
    try go_wp2
    go_meet
    case rel => exact ⟨_,(t164),(t155),(0),(0),(t163),H',⟨by have:=HK1.out;first | omega | exact Nat.le_refl _⟩,⟨by (with_reducible repeat first | apply rA_ | apply rN_ | apply rD_);exact Kd.R_mono (rfar4 (g:=a2) (Kd.R_mono a3.out (fun k_ hk => (⟨hk,hk⟩ : _ ∧ k_ ≠ a2))) (fun _ hk => hk.2)) (fun _ hk => hk.1)⟩,⟨by (with_reducible repeat first | apply bN_ | apply bD_ | apply bA_);apply fill4;(with_reducible repeat first | apply bN_ | apply bD_ | apply bA_);exact a0.out⟩,⟨by repeat (first | (with_reducible first | exact HI0.out | apply IsS117.alloc | apply IsS117.drewN | apply IsS117.drew | apply IsS117.set_1 | refine IsS117.far ?_ a5.out _) | exact HI0.out)⟩,⟨by repeat (first | (with_reducible first | exact HK.out | apply KeepBut.set_ | apply kN_ | apply kD_ | apply kA_ | refine kF_ ?_ a8.out _) | exact HK.out)⟩,⟨by repeat (first | (with_reducible first | exact HB.out | apply lA1_ | apply lN_ | apply lD_ | refine lS1_ ?_ (IsS117.ge HI0.out) | refine lS1_ ?_ ac.out) | exact HB.out)⟩⟩
   case rest =>
    clear al
    try clear c1
    try clear c2
    try clear p2
    try clear c3
    try clear c4
    try clear c5
    try clear c5b0
    try clear c7
    try clear c10
    try clear c20
    try clear c22
    try clear c22b0
    try clear c22b1
    try clear c31
    try clear c31b0
    try clear c31b1
    try clear c32
    try clear p2
    obtain ⟨kq,x1001_10,x162000_10,x162001_10,x162002_10,x162003_10,HA,HJ10,a3,a0,HI0,HK,HB⟩:=hcut
    cases kq with
    | zero => exact absurd HA.out (by simp [spec_l5Grow.j1])
    | succ kj10 =>
     have H:=HA.out
     clear HA
     simp only [spec_l5Grow.j1] at H
     replace H:=bS_ H
     obtain ⟨⟨t165,t166,t167⟩,au,H⟩:=H
     try dsimp only at H
     replace H:=iE_ H
     obtain ⟨c35b0,c35b1,H⟩ | ⟨c35b0,c35b1,H⟩:=H
     rotate_left
     ·replace H:=iE_ H
      obtain ⟨c62b0,c62b1,H⟩ | ⟨c62b0,c62b1,H⟩:=H
      rotate_left
      ·have H':=Z_ H
       clear H
       have bv:=af.out
       have bw:=a5.out
       obtain ⟨_,_,_,_,_,_,_,_⟩:=bc4 a0.out
       go_wp2_with (first | ((with_reducible refine gate_callee (f:=52) rfl ?_);refine goesA_ (some 42) rfl rfl Try.func52 (by kernel_rfl) rfl #[.slice aj x5_1.length ai,.agg #[.int .i64 x162000_10,.int .i64 x162001_10,.int .i64 x162002_10,.int .i64 x162003_10]] rfl ?_;(with_reducible refine (spec_l5Put.calls kj10 _ _ x5_1 x162000_10 x162001_10 x162002_10 x162003_10 t165 t166 t167 _ ?side1 ?side2 au.out).mono ?_);(case side1 => exact Rc_ a3);(case side2 => exact (Kd.R_reads' a3.out).2.1);rintro e w74 ⟨v168,rfl,ho0,hb⟩;refine ⟨_,rfl,?_⟩;have a9:=Z_ (Kd.R_lower (Kd.R_newB (Kd.R_new' ho0 (Kd.R_lt (Rk_ a3))) (g:=a2) (o:=.cells #[.int .i64 x162000_10,.int .i64 x162001_10,.int .i64 x162002_10,.int .i64 x162003_10] 36 (0,0)) (Bk_ a0)) (keep_size (w:=w) (g:=g) (row:=none) (by repeat (first | (with_reducible first | exact HK.out | apply KeepBut.set_ | apply kN_ | apply kD_ | apply kA_ | refine kF_ ?_ a8.out _) | exact HK.out))));replace a3:=Z_ (Kd.R_elder' (Rk_ a3) (Kd.R_base ho0) hb);replace a0:=Z_ (bB_ (g:=a2) (o:=.cells #[.int .i64 x162000_10,.int .i64 x162001_10,.int .i64 x162002_10,.int .i64 x162003_10] 36 (0,0)) (Bk_ a0) hb);replace HK:=Z_ (KeepBut.trans (by repeat (first | (with_reducible first | exact HK.out | apply KeepBut.set_ | apply kN_ | apply kD_ | apply kA_ | refine kF_ ?_ a8.out _) | exact HK.out)) (KeepBut.of_below hb g none) (.inl rfl));replace HB:=Z_ (lP_ (by repeat (first | (with_reducible first | exact HB.out | apply lA1_ | apply lN_ | apply lD_ | refine lS1_ ?_ (IsS117.ge HI0.out) | refine lS1_ ?_ ac.out) | exact HB.out)) hb);replace HI0:=Z_ (IsS117.below (by repeat (first | (with_reducible first | exact HI0.out | apply IsS117.alloc | apply IsS117.drewN | apply IsS117.drew | apply IsS117.set_1 | refine IsS117.far ?_ a5.out _) | exact HI0.out)) hb);(try clear hb);(try clear ho0)) | ((with_reducible refine gD_ 8 rfl ?_);refine bx_ #[.int .i64 0,.int .i64 0,.slice none 0 0] 33 ?_;intro a4 hg w75 hbox hb;replace a3:=Z_ (Kd.R_below a3.out hb);replace a9:=Z_ (Kd.R_below a9.out hb);replace HB:=Z_ (lP_ HB.out hb);have a7:=Z_ hbox;have ae:=Z_ ((by rw [hg];exact (keep_size (w:=w) (g:=g) (row:=none) HK.out) : w.heap.size ≤ a4));have ah:=Z_ ((Nat.le_trans HW0.out (by rw [hg];exact (keep_size (w:=w) (g:=g) (row:=none) HK.out) : w.heap.size ≤ a4) : w0.heap.size ≤ a4));replace HK:=Z_ (KeepBut.trans HK.out (KeepBut.of_below hb g none) (.inl rfl));have ab:=Z_ ((by rw [hg];exact Nat.ne_of_lt (blk_lt a0.out) : a2 ≠ a4));replace a0:=Z_ (bB_ a0.out hb);have ad:=Z_ ab.out.symm;have aa:=Z_ ((by rw [hg];exact Nat.ne_of_lt (IsS117.lt (show IsS117 w0 _ g s0_0 x1001_10 from HI0.out)) : g ≠ a4));replace HI0:=Z_ (IsS117.below HI0.out hb);have ag:=Z_ aa.out.symm;clear hb hbox hg;have bx:=ad.out;have bz:=ab.out;have c0:=ag.out;have c6:=aa.out;obtain ⟨_,_,_,_,_,_⟩:=bc3 a7.out;obtain ⟨ce,cf,eo79⟩:=Kd.R_slice a9.out;subst eo79;obtain ⟨_,_,_,_,_,_,_,_⟩:=bc4 a0.out))
       go_roundg kj10
       case measure => have:=HK1.out;have:=HJ10.out;omega
       case rel => exact ⟨(wrap64 (x1_1 - 1)),(x5_1),(x1001_10),Sr_,H',⟨by have:=HK1.out;have:=HJ10.out;omega⟩,⟨by (with_reducible repeat first | apply rA_ | apply rN_ | apply rD_);exact Kd.R_mono (rfar3 (g:=a4) (Kd.R_types a3.out a7.out (by decide)) (fun _ hk => hk.2)) (fun _ hk => trivial)⟩,⟨by repeat (first | (with_reducible first | exact HI0.out | apply IsS117.alloc | apply IsS117.drewN | apply IsS117.drew | apply IsS117.set_1 | refine IsS117.far ?_ a5.out _ | refine IsS117.far ?_ aa.out _) | exact HI0.out)⟩,⟨by repeat (first | (with_reducible first | exact HK.out | apply KeepBut.set_ | apply kN_ | apply kD_ | apply kA_ | refine kF_ ?_ a8.out _ | refine kF_ ?_ ae.out _) | exact HK.out)⟩,⟨by repeat (first | (with_reducible first | exact HB.out | apply lA1_ | apply lN_ | apply lD_ | refine lS1_ ?_ (IsS117.ge HI0.out) | refine lS1_ ?_ ac.out | refine lS1_ ?_ ah.out) | exact HB.out)⟩⟩
      rotate_right
      have H':=Z_ H
      clear H
      have bp:=af.out
      have bq:=a5.out
      obtain ⟨_,_,_,_,_,_,_,_⟩:=bc4 a0.out
      go_wp2_with (first | ((with_reducible refine gate_callee (f:=52) rfl ?_);refine goesA_ (some 42) rfl rfl Try.func52 (by kernel_rfl) rfl #[.slice aj x5_1.length ai,.agg #[.int .i64 x162000_10,.int .i64 x162001_10,.int .i64 x162002_10,.int .i64 x162003_10]] rfl ?_;(with_reducible refine (spec_l5Put.calls kj10 _ _ x5_1 x162000_10 x162001_10 x162002_10 x162003_10 t165 t166 t167 _ ?side1 ?side2 au.out).mono ?_);(case side1 => exact Rc_ a3);(case side2 => exact (Kd.R_reads' a3.out).2.1);rintro e w65 ⟨v168,rfl,ho0,hb⟩;refine ⟨_,rfl,?_⟩;have a9:=Z_ (Kd.R_lower (Kd.R_newB (Kd.R_new' ho0 (Kd.R_lt (Rk_ a3))) (g:=a2) (o:=.cells #[.int .i64 x162000_10,.int .i64 x162001_10,.int .i64 x162002_10,.int .i64 x162003_10] 36 (0,0)) (Bk_ a0)) (keep_size (w:=w) (g:=g) (row:=none) (by repeat (first | (with_reducible first | exact HK.out | apply KeepBut.set_ | apply kN_ | apply kD_ | apply kA_ | refine kF_ ?_ a8.out _) | exact HK.out))));replace a0:=Z_ (bB_ (g:=a2) (o:=.cells #[.int .i64 x162000_10,.int .i64 x162001_10,.int .i64 x162002_10,.int .i64 x162003_10] 36 (0,0)) (Bk_ a0) hb);replace HK:=Z_ (KeepBut.trans (by repeat (first | (with_reducible first | exact HK.out | apply KeepBut.set_ | apply kN_ | apply kD_ | apply kA_ | refine kF_ ?_ a8.out _) | exact HK.out)) (KeepBut.of_below hb g none) (.inl rfl));replace HB:=Z_ (lP_ (by repeat (first | (with_reducible first | exact HB.out | apply lA1_ | apply lN_ | apply lD_ | refine lS1_ ?_ (IsS117.ge HI0.out) | refine lS1_ ?_ ac.out) | exact HB.out)) hb);replace HI0:=Z_ (IsS117.below (by repeat (first | (with_reducible first | exact HI0.out | apply IsS117.alloc | apply IsS117.drewN | apply IsS117.drew | apply IsS117.set_1 | refine IsS117.far ?_ a5.out _) | exact HI0.out)) hb);(try clear hb);(try clear ho0)) | ((with_reducible refine gD_ 8 rfl ?_);refine bx_ #[.int .i64 0,.int .i64 0,.slice none 0 0] 33 ?_;intro a4 hg w66 hbox hb;replace a9:=Z_ (Kd.R_below (Rk_ a9) hb);replace HB:=Z_ (lP_ (by repeat (first | (with_reducible first | exact HB.out | apply lA1_ | apply lN_ | apply lD_ | refine lS1_ ?_ (IsS117.ge HI0.out) | refine lS1_ ?_ ac.out) | exact HB.out)) hb);have a7:=Z_ hbox;have ae:=Z_ ((by rw [hg];exact (keep_size (w:=w) (g:=g) (row:=none) (by repeat (first | (with_reducible first | exact HK.out | apply KeepBut.set_ | apply kN_ | apply kD_ | apply kA_ | refine kF_ ?_ a8.out _) | exact HK.out))) : w.heap.size ≤ a4));have ah:=Z_ ((Nat.le_trans HW0.out (by rw [hg];exact (keep_size (w:=w) (g:=g) (row:=none) (by repeat (first | (with_reducible first | exact HK.out | apply KeepBut.set_ | apply kN_ | apply kD_ | apply kA_ | refine kF_ ?_ a8.out _) | exact HK.out))) : w.heap.size ≤ a4) : w0.heap.size ≤ a4));replace HK:=Z_ (KeepBut.trans (by repeat (first | (with_reducible first | exact HK.out | apply KeepBut.set_ | apply kN_ | apply kD_ | apply kA_ | refine kF_ ?_ a8.out _) | exact HK.out)) (KeepBut.of_below hb g none) (.inl rfl));have ab:=Z_ ((by rw [hg];exact Nat.ne_of_lt (blk_lt (g:=a2) (o:=.cells #[.int .i64 x162000_10,.int .i64 x162001_10,.int .i64 x162002_10,.int .i64 x162003_10] 36 (0,0)) (Bk_ a0)) : a2 ≠ a4));replace a0:=Z_ (bB_ (g:=a2) (o:=.cells #[.int .i64 x162000_10,.int .i64 x162001_10,.int .i64 x162002_10,.int .i64 x162003_10] 36 (0,0)) (Bk_ a0) hb);have ad:=Z_ ab.out.symm;have aa:=Z_ ((by rw [hg];exact Nat.ne_of_lt (IsS117.lt (show IsS117 w0 _ g s0_0 x1001_10 from by repeat (first | (with_reducible first | exact HI0.out | apply IsS117.alloc | apply IsS117.drewN | apply IsS117.drew | apply IsS117.set_1 | refine IsS117.far ?_ a5.out _) | exact HI0.out))) : g ≠ a4));replace HI0:=Z_ (IsS117.below (by repeat (first | (with_reducible first | exact HI0.out | apply IsS117.alloc | apply IsS117.drewN | apply IsS117.drew | apply IsS117.set_1 | refine IsS117.far ?_ a5.out _) | exact HI0.out)) hb);have ag:=Z_ aa.out.symm;clear hb hbox hg;have br:=ad.out;have bs:=ab.out;have bt:=ag.out;have bu:=aa.out;obtain ⟨_,_,_,_,_,_⟩:=bc3 a7.out;obtain ⟨cc,cd,eo70⟩:=Kd.R_slice a9.out;subst eo70;obtain ⟨_,_,_,_,_,_,_,_⟩:=bc4 a0.out))
      go_roundg kj10
      case measure => have:=HK1.out;have:=HJ10.out;omega
      case rel => exact ⟨(wrap64 (x1_1 - 1)),(t167),(x1001_10),Sr_,H',⟨by have:=HK1.out;have:=HJ10.out;omega⟩,⟨by (with_reducible repeat first | apply rA_ | apply rN_ | apply rD_);exact Kd.R_mono (rfar3 (g:=a4) (Kd.R_types a9.out a7.out (by decide)) (fun _ hk => hk.2)) (fun _ hk => trivial)⟩,⟨by repeat (first | (with_reducible first | exact HI0.out | apply IsS117.alloc | apply IsS117.drewN | apply IsS117.drew | apply IsS117.set_1 | refine IsS117.far ?_ a5.out _ | refine IsS117.far ?_ aa.out _) | exact HI0.out)⟩,⟨by repeat (first | (with_reducible first | exact HK.out | apply KeepBut.set_ | apply kN_ | apply kD_ | apply kA_ | refine kF_ ?_ a8.out _ | refine kF_ ?_ ae.out _) | exact HK.out)⟩,⟨by repeat (first | (with_reducible first | exact HB.out | apply lA1_ | apply lN_ | apply lD_ | refine lS1_ ?_ (IsS117.ge HI0.out) | refine lS1_ ?_ ac.out | refine lS1_ ?_ ah.out) | exact HB.out)⟩⟩
     rotate_right
     replace H:=bS_ H
     obtain ⟨⟨t171,t172,t173⟩,b6,H⟩:=H
     try dsimp only at H
     replace H:=iE_ H
     obtain ⟨c37b0,c37b1,H⟩ | ⟨c37b0,c37b1,H⟩:=H
     rotate_left
     ·have H':=Z_ H
      clear H
      have bj:=af.out
      have bk:=a5.out
      obtain ⟨_,_,_,_,_,_,_,_⟩:=bc4 a0.out
      go_wp2_with (first | ((with_reducible refine gate_callee (f:=52) rfl ?_);refine goesA_ (some 42) rfl rfl Try.func52 (by kernel_rfl) rfl #[.slice aj x5_1.length ai,.agg #[.int .i64 x162000_10,.int .i64 x162001_10,.int .i64 x162002_10,.int .i64 x162003_10]] rfl ?_;(with_reducible refine (spec_l5Put.calls kj10 _ _ x5_1 x162000_10 x162001_10 x162002_10 x162003_10 t165 t166 t167 _ ?side1 ?side2 au.out).mono ?_);(case side1 => exact Rc_ a3);(case side2 => exact (Kd.R_reads' a3.out).2.1);rintro e w52 ⟨v168,rfl,ho0,hb⟩;refine ⟨_,rfl,?_⟩;have a9:=Z_ (Kd.R_lower (Kd.R_newB (Kd.R_new' ho0 (Kd.R_lt (Rk_ a3))) (g:=a2) (o:=.cells #[.int .i64 x162000_10,.int .i64 x162001_10,.int .i64 x162002_10,.int .i64 x162003_10] 36 (0,0)) (Bk_ a0)) (keep_size (w:=w) (g:=g) (row:=none) (by repeat (first | (with_reducible first | exact HK.out | apply KeepBut.set_ | apply kN_ | apply kD_ | apply kA_ | refine kF_ ?_ a8.out _) | exact HK.out))));replace a3:=Z_ (Kd.R_elder' (Rk_ a3) (Kd.R_base ho0) hb);replace a0:=Z_ (bB_ (g:=a2) (o:=.cells #[.int .i64 x162000_10,.int .i64 x162001_10,.int .i64 x162002_10,.int .i64 x162003_10] 36 (0,0)) (Bk_ a0) hb);replace HK:=Z_ (KeepBut.trans (by repeat (first | (with_reducible first | exact HK.out | apply KeepBut.set_ | apply kN_ | apply kD_ | apply kA_ | refine kF_ ?_ a8.out _) | exact HK.out)) (KeepBut.of_below hb g none) (.inl rfl));replace HB:=Z_ (lP_ (by repeat (first | (with_reducible first | exact HB.out | apply lA1_ | apply lN_ | apply lD_ | refine lS1_ ?_ (IsS117.ge HI0.out) | refine lS1_ ?_ ac.out) | exact HB.out)) hb);replace HI0:=Z_ (IsS117.below (by repeat (first | (with_reducible first | exact HI0.out | apply IsS117.alloc | apply IsS117.drewN | apply IsS117.drew | apply IsS117.set_1 | refine IsS117.far ?_ a5.out _) | exact HI0.out)) hb);(try clear hb);(try clear ho0)) | ((with_reducible refine gD_ 8 rfl ?_);refine bx_ #[.int .i64 0,.int .i64 0,.slice none 0 0] 33 ?_;intro a4 hg w53 hbox hb;replace a3:=Z_ (Kd.R_below a3.out hb);replace a9:=Z_ (Kd.R_below a9.out hb);replace HB:=Z_ (lP_ HB.out hb);have a7:=Z_ hbox;have ae:=Z_ ((by rw [hg];exact (keep_size (w:=w) (g:=g) (row:=none) HK.out) : w.heap.size ≤ a4));have ah:=Z_ ((Nat.le_trans HW0.out (by rw [hg];exact (keep_size (w:=w) (g:=g) (row:=none) HK.out) : w.heap.size ≤ a4) : w0.heap.size ≤ a4));replace HK:=Z_ (KeepBut.trans HK.out (KeepBut.of_below hb g none) (.inl rfl));have ab:=Z_ ((by rw [hg];exact Nat.ne_of_lt (blk_lt a0.out) : a2 ≠ a4));replace a0:=Z_ (bB_ a0.out hb);have ad:=Z_ ab.out.symm;have aa:=Z_ ((by rw [hg];exact Nat.ne_of_lt (IsS117.lt (show IsS117 w0 _ g s0_0 x1001_10 from HI0.out)) : g ≠ a4));replace HI0:=Z_ (IsS117.below HI0.out hb);have ag:=Z_ aa.out.symm;clear hb hbox hg;have bl:=ad.out;have bm:=ab.out;have bn:=ag.out;have bo:=aa.out;obtain ⟨_,_,_,_,_,_⟩:=bc3 a7.out;obtain ⟨ao,ap,eo57⟩:=Kd.R_slice a9.out;subst eo57;obtain ⟨_,_,_,_,_,_,_,_⟩:=bc4 a0.out) | ((with_reducible refine gate_callee (f:=103) rfl ?_);refine goesA_ (some 51) rfl rfl Try.func103 (by kernel_rfl) rfl #[.slice aj x5_1.length ai,.int .i64 x162001_10,.int .i64 x162002_10] rfl ?_;(with_reducible refine (spec_l5Both.calls kj10 _ _ x5_1 x162001_10 x162002_10 t171 t172 t173 _ ?side1 ?side2 b6.out).mono ?_);(case side1 => refine (Kd.R_reads' (e:=36) (base:=w.heap.size) (ok:=fun k_ => (k_ ≠ a2 ∧ some k_ ≠ (.slice ao t167.length ap : Value).ownBlock)) (n:=x5_1.length) (c:=ai) ?_).2.2;exact (Kd.R_mono (rfar3 (g:=a4) (Kd.R_types a3.out a7.out (by decide)) (fun _ hk => hk.2)) (fun _ h_ => h_.1)));(case side2 => exact (Kd.R_reads' a3.out).2.1);rintro e w59 ⟨v174,rfl,ho0,hb⟩;refine ⟨_,rfl,?_⟩;have ak:=Z_ (Kd.R_lower (Kd.R_newB (Kd.R_new' (Kd.R_new' ho0 (Kd.R_lt (Kd.R_mono (rfar3 (g:=a4) (Kd.R_types a3.out a7.out (by decide)) (fun _ hk => hk.2)) (fun _ h_ => h_.1)))) (Kd.R_lt (Kd.R_mono (rfar3 (g:=a4) (Kd.R_types a9.out a7.out (by decide)) (fun _ hk => hk.2)) (fun _ h_ => h_.1)))) (g:=a2) (o:=.cells #[.int .i64 x162000_10,.int .i64 x162001_10,.int .i64 x162002_10,.int .i64 x162003_10] 36 (0,0)) (by (iterate 3 (refine bF_ ?_ ab.out _));exact a0.out)) (keep_size (w:=w) (g:=g) (row:=none) (by repeat (first | (with_reducible first | exact HK.out | apply KeepBut.set_ | refine kF_ ?_ a8.out _ | refine kF_ ?_ ae.out _) | exact HK.out))));replace a3:=Z_ (Kd.R_elder' (Kd.R_mono (rfar3 (g:=a4) (Kd.R_types a3.out a7.out (by decide)) (fun _ hk => hk.2)) (fun _ h_ => h_.1)) (Kd.R_base ho0) hb);replace a7:=Z_ (bB_ (g:=a4) (o:=.cells #[.int .i64 t165,.int .i64 t166,.slice ao t167.length ap] 33 (0,0)) (by apply fill3;exact a7.out) hb);replace HK:=Z_ (KeepBut.trans (by repeat (first | (with_reducible first | exact HK.out | apply KeepBut.set_ | refine kF_ ?_ a8.out _ | refine kF_ ?_ ae.out _) | exact HK.out)) (KeepBut.of_below hb g none) (.inl rfl));replace HB:=Z_ (lP_ (by repeat (first | (with_reducible first | exact HB.out | refine lS1_ ?_ (IsS117.ge HI0.out) | refine lS1_ ?_ ac.out | refine lS1_ ?_ ah.out) | exact HB.out)) hb);replace HI0:=Z_ (IsS117.below (show IsS117 w0 (((w53.setCell ⟨a4,0,none⟩ (.int .i64 t165)).setCell ⟨a4,1,none⟩ (.int .i64 t166)).setCell ⟨a4,2,none⟩ (.slice ao t167.length ap)) g s0_0 x1001_10 from by repeat (first | (with_reducible first | exact HI0.out | apply IsS117.set_1 | refine IsS117.far ?_ a5.out _ | refine IsS117.far ?_ aa.out _) | exact HI0.out)) hb);(try clear hb);(try clear ho0);obtain ⟨_,_,_,_,_,_⟩:=bc3 a7.out;obtain ⟨ca,cb,eo61⟩:=Kd.R_slice ak.out;subst eo61))
      go_roundg kj10
      case measure => have:=HK1.out;have:=HJ10.out;omega
      case rel => exact ⟨(wrap64 (x1_1 - 1)),(x5_1),(x1001_10),Sr_,H',⟨by have:=HK1.out;have:=HJ10.out;omega⟩,⟨by (with_reducible repeat first | apply rA_ | apply rN_ | apply rD_);exact Kd.R_mono (rfar3 (g:=a4) (Kd.R_types a3.out a7.out (by decide)) (fun _ hk => hk.2)) (fun _ hk => trivial)⟩,⟨by repeat (first | (with_reducible first | exact HI0.out | apply IsS117.alloc | apply IsS117.drewN | apply IsS117.drew | apply IsS117.set_1 | refine IsS117.far ?_ a5.out _ | refine IsS117.far ?_ aa.out _) | exact HI0.out)⟩,⟨by repeat (first | (with_reducible first | exact HK.out | apply KeepBut.set_ | apply kN_ | apply kD_ | apply kA_ | refine kF_ ?_ a8.out _ | refine kF_ ?_ ae.out _) | exact HK.out)⟩,⟨by repeat (first | (with_reducible first | exact HB.out | apply lA1_ | apply lN_ | apply lD_ | refine lS1_ ?_ (IsS117.ge HI0.out) | refine lS1_ ?_ ac.out | refine lS1_ ?_ ah.out) | exact HB.out)⟩⟩
     rotate_right
     have H':=Z_ H
     clear H
     have bd:=af.out
     have be:=a5.out
     obtain ⟨_,_,_,_,_,_,_,_⟩:=bc4 a0.out
     go_wp2_with (first | ((with_reducible refine gate_callee (f:=52) rfl ?_);refine goesA_ (some 42) rfl rfl Try.func52 (by kernel_rfl) rfl #[.slice aj x5_1.length ai,.agg #[.int .i64 x162000_10,.int .i64 x162001_10,.int .i64 x162002_10,.int .i64 x162003_10]] rfl ?_;(with_reducible refine (spec_l5Put.calls kj10 _ _ x5_1 x162000_10 x162001_10 x162002_10 x162003_10 t165 t166 t167 _ ?side1 ?side2 au.out).mono ?_);(case side1 => exact Rc_ a3);(case side2 => exact (Kd.R_reads' a3.out).2.1);rintro e w40 ⟨v168,rfl,ho0,hb⟩;refine ⟨_,rfl,?_⟩;have a9:=Z_ (Kd.R_lower (Kd.R_newB (Kd.R_new' ho0 (Kd.R_lt a3.out)) a0.out) (keep_size (w:=w) (g:=g) (row:=none) HK.out));replace a3:=Z_ (Kd.R_elder' a3.out (Kd.R_base ho0) hb);replace a0:=Z_ (bB_ a0.out hb);replace HI0:=Z_ (IsS117.below HI0.out hb);replace HK:=Z_ (KeepBut.trans HK.out (KeepBut.of_below hb g none) (.inl rfl));replace HB:=Z_ (lP_ HB.out hb);(try clear hb);(try clear ho0)) | ((with_reducible refine gD_ 8 rfl ?_);refine bx_ #[.int .i64 0,.int .i64 0,.slice none 0 0] 33 ?_;intro a4 hg w41 hbox hb;replace a3:=Z_ (Kd.R_below a3.out hb);replace a9:=Z_ (Kd.R_below a9.out hb);replace HB:=Z_ (lP_ HB.out hb);have a7:=Z_ hbox;have ae:=Z_ ((by rw [hg];exact (keep_size (w:=w) (g:=g) (row:=none) HK.out) : w.heap.size ≤ a4));have ah:=Z_ ((Nat.le_trans HW0.out (by rw [hg];exact (keep_size (w:=w) (g:=g) (row:=none) HK.out) : w.heap.size ≤ a4) : w0.heap.size ≤ a4));replace HK:=Z_ (KeepBut.trans HK.out (KeepBut.of_below hb g none) (.inl rfl));have ab:=Z_ ((by rw [hg];exact Nat.ne_of_lt (blk_lt a0.out) : a2 ≠ a4));replace a0:=Z_ (bB_ a0.out hb);have ad:=Z_ ab.out.symm;have aa:=Z_ ((by rw [hg];exact Nat.ne_of_lt (IsS117.lt (show IsS117 w0 _ g s0_0 x1001_10 from HI0.out)) : g ≠ a4));replace HI0:=Z_ (IsS117.below HI0.out hb);have ag:=Z_ aa.out.symm;clear hb hbox hg;have bf:=ad.out;have bg:=ab.out;have bh:=ag.out;have bi:=aa.out;obtain ⟨_,_,_,_,_,_⟩:=bc3 a7.out;obtain ⟨am,an,eo45⟩:=Kd.R_slice a9.out;subst eo45;obtain ⟨_,_,_,_,_,_,_,_⟩:=bc4 a0.out) | ((with_reducible refine gate_callee (f:=103) rfl ?_);refine goesA_ (some 51) rfl rfl Try.func103 (by kernel_rfl) rfl #[.slice aj x5_1.length ai,.int .i64 x162001_10,.int .i64 x162002_10] rfl ?_;(with_reducible refine (spec_l5Both.calls kj10 _ _ x5_1 x162001_10 x162002_10 t171 t172 t173 _ ?side1 ?side2 b6.out).mono ?_);(case side1 => refine (Kd.R_reads' (e:=36) (base:=w.heap.size) (ok:=fun k_ => (k_ ≠ a2 ∧ some k_ ≠ (.slice am t167.length an : Value).ownBlock)) (n:=x5_1.length) (c:=ai) ?_).2.2;exact (Kd.R_mono (rfar3 (g:=a4) (Kd.R_types a3.out a7.out (by decide)) (fun _ hk => hk.2)) (fun _ h_ => h_.1)));(case side2 => exact (Kd.R_reads' a3.out).2.1);rintro e w47 ⟨v174,rfl,ho0,hb⟩;refine ⟨_,rfl,?_⟩;have ak:=Z_ (Kd.R_lower (Kd.R_newB (Kd.R_new' (Kd.R_new' ho0 (Kd.R_lt (Kd.R_mono (rfar3 (g:=a4) (Kd.R_types a3.out a7.out (by decide)) (fun _ hk => hk.2)) (fun _ h_ => h_.1)))) (Kd.R_lt (Kd.R_mono (rfar3 (g:=a4) (Kd.R_types a9.out a7.out (by decide)) (fun _ hk => hk.2)) (fun _ h_ => h_.1)))) (g:=a2) (o:=.cells #[.int .i64 x162000_10,.int .i64 x162001_10,.int .i64 x162002_10,.int .i64 x162003_10] 36 (0,0)) (by (iterate 3 (refine bF_ ?_ ab.out _));exact a0.out)) (keep_size (w:=w) (g:=g) (row:=none) (by repeat (first | (with_reducible first | exact HK.out | apply KeepBut.set_ | refine kF_ ?_ a8.out _ | refine kF_ ?_ ae.out _) | exact HK.out))));replace a7:=Z_ (bB_ (g:=a4) (o:=.cells #[.int .i64 t165,.int .i64 t166,.slice am t167.length an] 33 (0,0)) (by apply fill3;exact a7.out) hb);replace HK:=Z_ (KeepBut.trans (by repeat (first | (with_reducible first | exact HK.out | apply KeepBut.set_ | refine kF_ ?_ a8.out _ | refine kF_ ?_ ae.out _) | exact HK.out)) (KeepBut.of_below hb g none) (.inl rfl));replace HB:=Z_ (lP_ (by repeat (first | (with_reducible first | exact HB.out | refine lS1_ ?_ (IsS117.ge HI0.out) | refine lS1_ ?_ ac.out | refine lS1_ ?_ ah.out) | exact HB.out)) hb);replace HI0:=Z_ (IsS117.below (show IsS117 w0 (((w41.setCell ⟨a4,0,none⟩ (.int .i64 t165)).setCell ⟨a4,1,none⟩ (.int .i64 t166)).setCell ⟨a4,2,none⟩ (.slice am t167.length an)) g s0_0 x1001_10 from by repeat (first | (with_reducible first | exact HI0.out | apply IsS117.set_1 | refine IsS117.far ?_ a5.out _ | refine IsS117.far ?_ aa.out _) | exact HI0.out)) hb);(try clear hb);(try clear ho0);obtain ⟨_,_,_,_,_,_⟩:=bc3 a7.out;obtain ⟨c8,c9,eo49⟩:=Kd.R_slice ak.out;subst eo49))
     go_roundg kj10
     case measure => have:=HK1.out;have:=HJ10.out;omega
     case rel => exact ⟨(wrap64 (x1_1 - 1)),(t173),(x1001_10),Sr_,H',⟨by have:=HK1.out;have:=HJ10.out;omega⟩,⟨by (with_reducible repeat first | apply rA_ | apply rN_ | apply rD_);exact Kd.R_mono (rfar3 (g:=a4) (Kd.R_types ak.out a7.out (by decide)) (fun _ hk => hk.2)) (fun _ hk => trivial)⟩,⟨by repeat (first | (with_reducible first | exact HI0.out | apply IsS117.alloc | apply IsS117.drewN | apply IsS117.drew | apply IsS117.set_1 | refine IsS117.far ?_ a5.out _ | refine IsS117.far ?_ aa.out _) | exact HI0.out)⟩,⟨by repeat (first | (with_reducible first | exact HK.out | apply KeepBut.set_ | apply kN_ | apply kD_ | apply kA_ | refine kF_ ?_ a8.out _ | refine kF_ ?_ ae.out _) | exact HK.out)⟩,⟨by repeat (first | (with_reducible first | exact HB.out | apply lA1_ | apply lN_ | apply lD_ | refine lS1_ ?_ (IsS117.ge HI0.out) | refine lS1_ ?_ ac.out | refine lS1_ ?_ ah.out) | exact HB.out)⟩⟩
def spec_l5Bent.f (k : Nat) (s0_0 : List Int) (s0_1 : Int) : Option ((List (S36)) × Int):=(spec_l1Pick.f s0_0 s0_1 (([6,14,25,40,1] : List Int))).bind fun bt179 => ((spec_l5Grow.f k s0_0 bt179.2 bt179.1).bind fun bt181 => (if (bt181.1.length : Int) = 0 then (some (bt181.1,bt181.2)) else ((spec_l1Next.f s0_0 bt181.2 (bt181.1.length : Int)).bind fun bt185 => ((spec_l1Next.f s0_0 bt185.2 24).bind fun bt187 => (if bt187.1 = 0 then ((spec_l1Next.f s0_0 bt187.2 7).bind fun bt189 => ((spec_l1Pick.f s0_0 bt189.2 (([0,8,wrap64 (1 + bt189.1)] : List Int))).bind fun bt194 => (if 0 ≤ bt185.1 then (if bt185.1 < (bt181.1.length : Int) then (some ((bt181.1.set (bt185.1 : Int).toNat (⟨bt194.1,(rd_T36 bt181.1 bt185.1).f1,(rd_T36 bt181.1 bt185.1).f2,(rd_T36 bt181.1 bt185.1).f3⟩ : S36)),bt194.2)) else (none)) else (none)))) else (if bt187.1 = 1 then ((spec_l1Pick.f s0_0 bt187.2 (([(-1),bt185.1,0,4611686018427387904] : List Int))).bind fun bt200 => (if 0 ≤ bt185.1 then (if bt185.1 < (bt181.1.length : Int) then (some ((bt181.1.set (bt185.1 : Int).toNat (⟨(rd_T36 bt181.1 bt185.1).f0,bt200.1,(rd_T36 bt181.1 bt185.1).f2,(rd_T36 bt181.1 bt185.1).f3⟩ : S36)),bt200.2)) else (none)) else (none))) else (if bt187.1 = 2 then ((spec_l1Pick.f s0_0 bt187.2 (([(-1),bt185.1,1] : List Int))).bind fun bt206 => (if 0 ≤ bt185.1 then (if bt185.1 < (bt181.1.length : Int) then (some ((bt181.1.set (bt185.1 : Int).toNat (⟨(rd_T36 bt181.1 bt185.1).f0,(rd_T36 bt181.1 bt185.1).f1,bt206.1,(rd_T36 bt181.1 bt185.1).f3⟩ : S36)),bt206.2)) else (none)) else (none))) else (if bt187.1 = 3 then ((spec_l1Pick.f s0_0 bt187.2 (([(-1),10000,1] : List Int))).bind fun bt212 => (if 0 ≤ bt185.1 then (if bt185.1 < (bt181.1.length : Int) then (some ((bt181.1.set (bt185.1 : Int).toNat (⟨(rd_T36 bt181.1 bt185.1).f0,(rd_T36 bt181.1 bt185.1).f1,(rd_T36 bt181.1 bt185.1).f2,bt212.1⟩ : S36)),bt212.2)) else (none)) else (none))) else (if bt187.1 = 4 then (if 0 ≤ bt185.1 then (if bt185.1 < (bt181.1.length : Int) then (if bt181.1.length < 4398046511104 then (some ((bt181.1 ++ [(⟨(rd_T36 bt181.1 bt185.1).f0,(rd_T36 bt181.1 bt185.1).f1,(rd_T36 bt181.1 bt185.1).f2,(rd_T36 bt181.1 bt185.1).f3⟩ : S36)]),bt187.2)) else (none)) else (none)) else (none)) else (if bt187.1 = 5 then (if 401 ≤ 8796093022208 then (some ((List.replicate 401 z36),bt187.2)) else (none)) else (some (bt181.1,bt187.2))))))))))))
set_option maxHeartbeats 8000000 in
set_option maxRecDepth 100000 in
theorem spec_l5Bent.calls (k g : Nat) (s0_0 : List Int) (s0_1 : Int) (r1 : List (S36)) (r2 : Int) (w0 w : World) (hI : IsS117 w0 w g s0_0 s0_1) (hB : Below w0.heap.size w0 w) (h : spec_l5Bent.f k s0_0 s0_1 = some (r1,r2)) :
  Calls Try.prog 36 #[.pointer (some ⟨g,0,none⟩)] w fun e w' => ∃ v0_ : Value,e = .returned (v0_) ∧ Kd.R k36 36 w' w.heap.size (fun _ => True) v0_ r1 ∧ IsS117 w0 w' g s0_0 r2 ∧ Below w0.heap.size w0 w' ∧ KeepBut w w' g none:=by
 have hu36:=Try.underlying36
 have HI0:=Z_ hI
 have HK:=Z_ (KeepBut.refl w g none)
 have HL:=Z_ hB.size
 clear hI
 have HW0:=Z_ hB.size
 have HB:=Z_ hB
 clear hB
 unfold spec_l5Bent.f at h
 have H:=h
 clear h
 obtain ⟨y176,hy176⟩ : ∃ y_ : List Int,y_ = (([6,14,25,40,1] : List Int)):=⟨_,rfl⟩
 replace H : ((spec_l1Pick.f s0_0 s0_1 y176).bind fun bt179 => ((spec_l5Grow.f k s0_0 bt179.2 bt179.1).bind fun bt181 => (if (bt181.1.length : Int) = 0 then (some (bt181.1,bt181.2)) else ((spec_l1Next.f s0_0 bt181.2 (bt181.1.length : Int)).bind fun bt185 => ((spec_l1Next.f s0_0 bt185.2 24).bind fun bt187 => (if bt187.1 = 0 then ((spec_l1Next.f s0_0 bt187.2 7).bind fun bt189 => ((spec_l1Pick.f s0_0 bt189.2 (([0,8,wrap64 (1 + bt189.1)] : List Int))).bind fun bt194 => (if 0 ≤ bt185.1 then (if bt185.1 < (bt181.1.length : Int) then (some ((bt181.1.set (bt185.1 : Int).toNat (⟨bt194.1,(rd_T36 bt181.1 bt185.1).f1,(rd_T36 bt181.1 bt185.1).f2,(rd_T36 bt181.1 bt185.1).f3⟩ : S36)),bt194.2)) else (none)) else (none)))) else (if bt187.1 = 1 then ((spec_l1Pick.f s0_0 bt187.2 (([(-1),bt185.1,0,4611686018427387904] : List Int))).bind fun bt200 => (if 0 ≤ bt185.1 then (if bt185.1 < (bt181.1.length : Int) then (some ((bt181.1.set (bt185.1 : Int).toNat (⟨(rd_T36 bt181.1 bt185.1).f0,bt200.1,(rd_T36 bt181.1 bt185.1).f2,(rd_T36 bt181.1 bt185.1).f3⟩ : S36)),bt200.2)) else (none)) else (none))) else (if bt187.1 = 2 then ((spec_l1Pick.f s0_0 bt187.2 (([(-1),bt185.1,1] : List Int))).bind fun bt206 => (if 0 ≤ bt185.1 then (if bt185.1 < (bt181.1.length : Int) then (some ((bt181.1.set (bt185.1 : Int).toNat (⟨(rd_T36 bt181.1 bt185.1).f0,(rd_T36 bt181.1 bt185.1).f1,bt206.1,(rd_T36 bt181.1 bt185.1).f3⟩ : S36)),bt206.2)) else (none)) else (none))) else (if bt187.1 = 3 then ((spec_l1Pick.f s0_0 bt187.2 (([(-1),10000,1] : List Int))).bind fun bt212 => (if 0 ≤ bt185.1 then (if bt185.1 < (bt181.1.length : Int) then (some ((bt181.1.set (bt185.1 : Int).toNat (⟨(rd_T36 bt181.1 bt185.1).f0,(rd_T36 bt181.1 bt185.1).f1,(rd_T36 bt181.1 bt185.1).f2,bt212.1⟩ : S36)),bt212.2)) else (none)) else (none))) else (if bt187.1 = 4 then (if 0 ≤ bt185.1 then (if bt185.1 < (bt181.1.length : Int) then (if bt181.1.length < 4398046511104 then (some ((bt181.1 ++ [(⟨(rd_T36 bt181.1 bt185.1).f0,(rd_T36 bt181.1 bt185.1).f1,(rd_T36 bt181.1 bt185.1).f2,(rd_T36 bt181.1 bt185.1).f3⟩ : S36)]),bt187.2)) else (none)) else (none)) else (none)) else (if bt187.1 = 5 then (if 401 ≤ 8796093022208 then (some ((List.replicate 401 z36),bt187.2)) else (none)) else (some (bt181.1,bt187.2))))))))))))) = some (r1,r2):=by first | (rw [hy176];with_reducible exact H) | (have H2_:=(Option.bind_some _ _).symm.trans H;rw [hy176];with_reducible exact H2_) | (have H2_:=(Option.bind_some _ _).symm.trans H;with_reducible exact H2_) | with_reducible exact H | (rw [hy176];exact H) | exact H
 have a2:=Z_ hy176
 clear hy176
 replace H:=bS_ H
 obtain ⟨⟨t179,t180⟩,A2,H⟩:=H
 try dsimp only at H
 replace H:=bS_ H
 obtain ⟨⟨t181,t184⟩,A3,H⟩:=H
 try dsimp only at H
 replace H:=iC_ H
 obtain ⟨c4,H⟩ | ⟨c4,H⟩:=H
 focus
  have c4b0 : ((t181.length : Int) == 0) = true:=beq_iff_eq.mpr c4
  have c4b1 : ((t181.length : Int) != 0) = false:=bne_eq_false_iff_eq.mpr c4
  clear c4
 rotate_left
 have c4b0 : ((t181.length : Int) == 0) = false:=beq_eq_false_iff_ne.mpr c4
 have c4b1 : ((t181.length : Int) != 0) = true:=bne_iff_ne.mpr c4
 have c4b2 : ¬ (t181 = []):=fun h_ => c4 (by rw [h_];rfl)
 replace H:=bS_ H
 obtain ⟨⟨t185,t186⟩,a7,H⟩:=H
 try dsimp only at H
 replace H:=bS_ H
 obtain ⟨⟨t187,t188⟩,a8,H⟩:=H
 try dsimp only at H
 replace H:=iE_ H
 obtain ⟨c13b0,c13b1,H⟩ | ⟨c13b0,c13b1,H⟩:=H
 ·replace H:=bS_ H
  obtain ⟨⟨t189,t190⟩,bz,H⟩:=H
  try dsimp only at H
  obtain ⟨y191,hy191⟩ : ∃ y_ : List Int,y_ = (([0,8,wrap64 (1 + t189)] : List Int)):=⟨_,rfl⟩
  replace H : ((spec_l1Pick.f s0_0 t190 y191).bind fun bt194 => (if 0 ≤ t185 then (if t185 < (t181.length : Int) then (some ((t181.set (t185 : Int).toNat (⟨bt194.1,(rd_T36 t181 t185).f1,(rd_T36 t181 t185).f2,(rd_T36 t181 t185).f3⟩ : S36)),bt194.2)) else (none)) else (none))) = some (r1,r2):=by first | (rw [hy191];with_reducible exact H) | (have H2_:=(Option.bind_some _ _).symm.trans H;rw [hy191];with_reducible exact H2_) | (have H2_:=(Option.bind_some _ _).symm.trans H;with_reducible exact H2_) | with_reducible exact H | (rw [hy191];exact H) | exact H
  have a9:=Z_ hy191
  clear hy191
  replace H:=bS_ H
  obtain ⟨⟨t194,t195⟩,c0,H⟩:=H
  try dsimp only at H
  replace H:=iM_ H
  obtain ⟨c16b0,H⟩:=H
  replace H:=iM_ H
  obtain ⟨c17b0,H⟩:=H
  obtain ⟨y196,hy196⟩ : ∃ y_ : List (S36),y_ = (t181.set (t185 : Int).toNat (⟨t194,(rd_T36 t181 t185).f1,(rd_T36 t181 t185).f2,(rd_T36 t181 t185).f3⟩ : S36)):=⟨_,rfl⟩
  replace H : (some (y196,t195)) = some (r1,r2):=by first | (rw [hy196];with_reducible exact H) | (have H2_:=(Option.bind_some _ _).symm.trans H;rw [hy196];with_reducible exact H2_) | (have H2_:=(Option.bind_some _ _).symm.trans H;with_reducible exact H2_) | with_reducible exact H | (rw [hy196];exact H) | exact H
  have av:=Z_ hy196
  clear hy196
  simp only [Option.some.injEq,Prod.mk.injEq] at H
  obtain ⟨rfl,rfl⟩:=H
  go_enter Try.func36,Try.ntmps36
  go_wp2_with (first | ((with_reducible refine gD_ 7 rfl ?_);refine Kd.R_lit (Kd.int .i64) _ 2 ?hg (N:=7) ?hd (xs:=([6,14,25,40,1] : List Int)) (inner:=[.int .i64 6,.int .i64 14,.int .i64 25,.int .i64 40,.int .i64 1]) (ok:=fun _ => True) (okp:=fun _ => True) ?hr ?hp (fun _ hk => hk) trivial (Below.refl _ _) (Nat.le_refl _) (by simp) ?_;(case hd => rfl);(case hg => rfl);(case hr => first | (go_simp;done) | (go_simp;rfl));(case hp => exact (Reps.one (show Kd.M (Kd.int .i64) _ _ _ 6 [.int .i64 6] from rfl) (Reps.one (show Kd.M (Kd.int .i64) _ _ _ 14 [.int .i64 14] from rfl) (Reps.one (show Kd.M (Kd.int .i64) _ _ _ 25 [.int .i64 25] from rfl) (Reps.one (show Kd.M (Kd.int .i64) _ _ _ 40 [.int .i64 40] from rfl) (Reps.one (show Kd.M (Kd.int .i64) _ _ _ 1 [.int .i64 1] from rfl) (Reps.none _ _)))))));intro v177 w19 ho20 hb hg_ hnew_;clear hg_ hnew_;(first | rw [← a2.out] at ho20 | (simp only [Int.reduceToNat] at ho20;rw [← a2.out] at ho20));have a1:=Z_ (Kd.R_lower ho20 (keep_size (w:=w) (g:=g) (row:=none) (by repeat (first | (with_reducible first | exact HK.out | apply KeepBut.set_) | exact HK.out))));replace HK:=Z_ (KeepBut.trans (by repeat (first | (with_reducible first | exact HK.out | apply KeepBut.set_) | exact HK.out)) (KeepBut.of_below hb g none) (.inl rfl));replace HB:=Z_ (lP_ (by repeat (first | (with_reducible first | exact HB.out | refine lS1_ ?_ (IsS117.ge HI0.out)) | exact HB.out)) hb);replace HI0:=Z_ (IsS117.below (by repeat (first | (with_reducible first | exact HI0.out | apply IsS117.set_1) | exact HI0.out)) hb);clear hb ho20;obtain ⟨ba,bb,eo21⟩:=Kd.R_slice a1.out;subst eo21) | ((with_reducible refine gate_callee (f:=40) rfl ?_);refine goesA_ (some 8) rfl rfl Try.func40 (by kernel_rfl) rfl #[.pointer (some ⟨g,0,none⟩),.slice ba y176.length bb] rfl ?_;(with_reducible refine (spec_l1Pick.calls g s0_0 s0_1 _ _ y176 t179 t180 w0 _ ?side1 ?side2 ?side3 ?side4 ?side5 A2.out).mono ?_);(case side1 => repeat (first | (with_reducible first | exact HI0.out | apply IsS117.set_1) | exact HI0.out));(case side2 => repeat (first | (with_reducible first | exact HB.out | refine lS1_ ?_ (IsS117.ge HI0.out)) | exact HB.out));(case side3 => exact Rc_ a1);(case side4 => exact (Kd.R_reads' a1.out).2.1);(case side5 => exact far_slice (IsS117.own_ne HI0.out a1.out (by decide)));rintro e w22 ⟨rfl,hi,hb,hk⟩;refine ⟨_,rfl,?_⟩;replace a1:=Z_ (Kd.R_mono (Kd.R_keep (IsS117.apart (show IsS117 w0 _ g s0_0 s0_1 from by repeat (first | (with_reducible first | exact HI0.out | apply IsS117.set_1) | exact HI0.out)) a1.out (by decide)) hk (fun _ h => h.2)) (fun _ h => h.1));replace HK:=Z_ (KeepBut.trans (by repeat (first | (with_reducible first | exact HK.out | apply KeepBut.set_) | exact HK.out)) hk (.inl rfl));replace HB:=Z_ (hb);replace HI0:=Z_ (hi);(try clear hb);(try clear hk);(try clear hi)) | ((with_reducible refine gate_callee (f:=75) rfl ?_);refine goesA_ (some 9) rfl rfl Try.func75 (by kernel_rfl) rfl #[.pointer (some ⟨g,0,none⟩),.int .i64 t179] rfl ?_;(with_reducible refine (spec_l5Grow.calls k g s0_0 t180 t179 t181 t184 w0 _ ?side1 ?side2 A3.out).mono ?_);(case side1 => repeat (first | (with_reducible first | exact HI0.out | apply IsS117.set_1) | exact HI0.out));(case side2 => repeat (first | (with_reducible first | exact HB.out | refine lS1_ ?_ (IsS117.ge HI0.out)) | exact HB.out));rintro e w23 ⟨v182,rfl,ho0,hi,hb,hk⟩;refine ⟨_,rfl,?_⟩;replace a1:=Z_ (Kd.R_mono (Kd.R_keep (IsS117.apart (show IsS117 w0 _ g s0_0 t180 from by repeat (first | (with_reducible first | exact HI0.out | apply IsS117.set_1) | exact HI0.out)) a1.out (by decide)) hk (fun _ h => h.2)) (fun _ h => h.1));have a0:=Z_ (Kd.R_lower ho0 (keep_size (w:=w) (g:=g) (row:=none) (by repeat (first | (with_reducible first | exact HK.out | apply KeepBut.set_) | exact HK.out))));replace HK:=Z_ (KeepBut.trans (by repeat (first | (with_reducible first | exact HK.out | apply KeepBut.set_) | exact HK.out)) hk (.inl rfl));replace HB:=Z_ (hb);replace HI0:=Z_ (hi);(try clear hb);(try clear hk);(try clear hi);(try clear ho0);obtain ⟨cc,ai,eo24⟩:=Kd.R_slice a0.out;subst eo24) | ((with_reducible refine gate_callee (f:=39) rfl ?_);refine goesA_ (some 17) rfl rfl Try.func39 (by kernel_rfl) rfl #[.pointer (some ⟨g,0,none⟩),.int .i64 (t181.length : Int)] rfl ?_;(with_reducible refine (spec_l1Next.calls g s0_0 t184 (t181.length : Int) t185 t186 w0 _ ?side1 ?side2 a7.out).mono ?_);(case side1 => repeat (first | (with_reducible first | exact HI0.out | apply IsS117.set_1) | exact HI0.out));(case side2 => repeat (first | (with_reducible first | exact HB.out | refine lS1_ ?_ (IsS117.ge HI0.out)) | exact HB.out));rintro e w25 ⟨rfl,hi,hb,hk⟩;refine ⟨_,rfl,?_⟩;replace a1:=Z_ (Kd.R_mono (Kd.R_keep (IsS117.apart (show IsS117 w0 _ g s0_0 t184 from by repeat (first | (with_reducible first | exact HI0.out | apply IsS117.set_1) | exact HI0.out)) a1.out (by decide)) hk (fun _ h => h.2)) (fun _ h => h.1));replace a0:=Z_ (Kd.R_mono (Kd.R_keep (IsS117.apart (show IsS117 w0 _ g s0_0 t184 from by repeat (first | (with_reducible first | exact HI0.out | apply IsS117.set_1) | exact HI0.out)) a0.out (by decide)) hk (fun _ h => h.2)) (fun _ h => h.1));replace HK:=Z_ (KeepBut.trans (by repeat (first | (with_reducible first | exact HK.out | apply KeepBut.set_) | exact HK.out)) hk (.inl rfl));replace HB:=Z_ (hb);replace HI0:=Z_ (hi);(try clear hb);(try clear hk);(try clear hi)) | ((with_reducible refine gate_callee (f:=39) rfl ?_);refine goesA_ (some 19) rfl rfl Try.func39 (by kernel_rfl) rfl #[.pointer (some ⟨g,0,none⟩),.int .i64 24] rfl ?_;(with_reducible refine (spec_l1Next.calls g s0_0 t186 24 t187 t188 w0 _ ?side1 ?side2 a8.out).mono ?_);(case side1 => repeat (first | (with_reducible first | exact HI0.out | apply IsS117.set_1) | exact HI0.out));(case side2 => repeat (first | (with_reducible first | exact HB.out | refine lS1_ ?_ (IsS117.ge HI0.out)) | exact HB.out));rintro e w26 ⟨rfl,hi,hb,hk⟩;refine ⟨_,rfl,?_⟩;replace a1:=Z_ (Kd.R_mono (Kd.R_keep (IsS117.apart (show IsS117 w0 _ g s0_0 t186 from by repeat (first | (with_reducible first | exact HI0.out | apply IsS117.set_1) | exact HI0.out)) a1.out (by decide)) hk (fun _ h => h.2)) (fun _ h => h.1));replace a0:=Z_ (Kd.R_mono (Kd.R_keep (IsS117.apart (show IsS117 w0 _ g s0_0 t186 from by repeat (first | (with_reducible first | exact HI0.out | apply IsS117.set_1) | exact HI0.out)) a0.out (by decide)) hk (fun _ h => h.2)) (fun _ h => h.1));replace HK:=Z_ (KeepBut.trans (by repeat (first | (with_reducible first | exact HK.out | apply KeepBut.set_) | exact HK.out)) hk (.inl rfl));replace HB:=Z_ (hb);replace HI0:=Z_ (hi);(try clear hb);(try clear hk);(try clear hi)) | ((with_reducible refine gate_callee (f:=39) rfl ?_);refine goesA_ (some 26) rfl rfl Try.func39 (by kernel_rfl) rfl #[.pointer (some ⟨g,0,none⟩),.int .i64 7] rfl ?_;(with_reducible refine (spec_l1Next.calls g s0_0 t188 7 t189 t190 w0 _ ?side1 ?side2 bz.out).mono ?_);(case side1 => repeat (first | (with_reducible first | exact HI0.out | apply IsS117.set_1) | exact HI0.out));(case side2 => repeat (first | (with_reducible first | exact HB.out | refine lS1_ ?_ (IsS117.ge HI0.out)) | exact HB.out));rintro e w27 ⟨rfl,hi,hb,hk⟩;refine ⟨_,rfl,?_⟩;replace a1:=Z_ (Kd.R_mono (Kd.R_keep (IsS117.apart (show IsS117 w0 _ g s0_0 t188 from by repeat (first | (with_reducible first | exact HI0.out | apply IsS117.set_1) | exact HI0.out)) a1.out (by decide)) hk (fun _ h => h.2)) (fun _ h => h.1));replace a0:=Z_ (Kd.R_mono (Kd.R_keep (IsS117.apart (show IsS117 w0 _ g s0_0 t188 from by repeat (first | (with_reducible first | exact HI0.out | apply IsS117.set_1) | exact HI0.out)) a0.out (by decide)) hk (fun _ h => h.2)) (fun _ h => h.1));replace HK:=Z_ (KeepBut.trans (by repeat (first | (with_reducible first | exact HK.out | apply KeepBut.set_) | exact HK.out)) hk (.inl rfl));replace HB:=Z_ (hb);replace HI0:=Z_ (hi);(try clear hb);(try clear hk);(try clear hi)) | ((with_reducible refine gD_ 28 rfl ?_);refine Kd.R_lit (Kd.int .i64) _ 2 ?hg (N:=28) ?hd (xs:=([0,8,wrap64 (1 + t189)] : List Int)) (inner:=[.int .i64 0,.int .i64 8,.int .i64 (wrap64 (1 + t189))]) (ok:=fun _ => True) (okp:=fun _ => True) ?hr ?hp (fun _ hk => hk) trivial (Below.refl _ _) (Nat.le_refl _) (by simp) ?_;(case hd => rfl);(case hg => rfl);(case hr => first | (go_simp;done) | (go_simp;rfl));(case hp => exact (Reps.one (show Kd.M (Kd.int .i64) _ _ _ 0 [.int .i64 0] from rfl) (Reps.one (show Kd.M (Kd.int .i64) _ _ _ 8 [.int .i64 8] from rfl) (Reps.one (show Kd.M (Kd.int .i64) _ _ _ (wrap64 (1 + t189)) [.int .i64 (wrap64 (1 + t189))] from rfl) (Reps.none _ _)))));intro v192 w28 ho29 hb hg_ hnew_;clear hg_ hnew_;(first | rw [← a9.out] at ho29 | (simp only [Int.reduceToNat] at ho29;rw [← a9.out] at ho29));replace a0:=Z_ (Kd.R_below a0.out hb);have a3:=Z_ (Kd.R_lower (Kd.R_new' ho29 (Kd.R_lt a1.out)) (keep_size (w:=w) (g:=g) (row:=none) (by repeat (first | (with_reducible first | exact HK.out | apply KeepBut.set_) | exact HK.out))));replace HK:=Z_ (KeepBut.trans (by repeat (first | (with_reducible first | exact HK.out | apply KeepBut.set_) | exact HK.out)) (KeepBut.of_below hb g none) (.inl rfl));replace HB:=Z_ (lP_ (by repeat (first | (with_reducible first | exact HB.out | refine lS1_ ?_ (IsS117.ge HI0.out)) | exact HB.out)) hb);replace HI0:=Z_ (IsS117.below (by repeat (first | (with_reducible first | exact HI0.out | apply IsS117.set_1) | exact HI0.out)) hb);clear hb ho29;obtain ⟨bc,bd,eo30⟩:=Kd.R_slice a3.out;subst eo30) | ((with_reducible refine gate_callee (f:=40) rfl ?_);refine goesA_ (some 29) rfl rfl Try.func40 (by kernel_rfl) rfl #[.pointer (some ⟨g,0,none⟩),.slice bc y191.length bd] rfl ?_;(with_reducible refine (spec_l1Pick.calls g s0_0 t190 _ _ y191 t194 t195 w0 _ ?side1 ?side2 ?side3 ?side4 ?side5 c0.out).mono ?_);(case side1 => repeat (first | (with_reducible first | exact HI0.out | apply IsS117.set_1) | exact HI0.out));(case side2 => repeat (first | (with_reducible first | exact HB.out | refine lS1_ ?_ (IsS117.ge HI0.out)) | exact HB.out));(case side3 => exact Rc_ a3);(case side4 => exact (Kd.R_reads' a3.out).2.1);(case side5 => exact far_slice (IsS117.own_ne HI0.out a3.out (by decide)));rintro e w31 ⟨rfl,hi,hb,hk⟩;refine ⟨_,rfl,?_⟩;replace a0:=Z_ (Kd.R_mono (Kd.R_keep (IsS117.apart (show IsS117 w0 _ g s0_0 t190 from by repeat (first | (with_reducible first | exact HI0.out | apply IsS117.set_1) | exact HI0.out)) a0.out (by decide)) hk (fun _ h => h.2)) (fun _ h => h.1));replace HK:=Z_ (KeepBut.trans (by repeat (first | (with_reducible first | exact HK.out | apply KeepBut.set_) | exact HK.out)) hk (.inl rfl));replace HB:=Z_ (hb);replace HI0:=Z_ (hi);(try clear hb);(try clear hk);(try clear hi);have p18 : 0 ≤ (t185 : Int):=dA_;have q18 : (t185 : Int) < ((t181.length : Int) : Int):=dA_;obtain ⟨go18,cd,eo18,aj,gl18,cl18,HG18⟩:=Kd.R_form a0.out (by omega);(first | cases eo18 | (injection eo18 with ea_ en_ ec_;(first | subst ea_ | (injection ea_ with ea_;subst ea_));subst ec_;clear en_));have be:=Z_ aj;have GG18:=Z_ HG18;clear aj gl18 HG18;obtain ⟨ce18,hcl18,hM18,hcc18,hfr18⟩:=Kd.R_elem a0.out z36 (t185 : Int) p18 q18;obtain rfl:=k36_openM hM18;have hx18_0 : w31.cell? ⟨go18,(t185 : Int).toNat * 4,none⟩ = some (.int .i64 ((rd_T36 t181 t185).f0)):=hcc18 0 _ rfl;have hx18_1 : w31.cell? ⟨go18,(t185 : Int).toNat * 4 + 1,none⟩ = some (.int .i64 ((rd_T36 t181 t185).f1)):=hcc18 1 _ rfl;have hx18_2 : w31.cell? ⟨go18,(t185 : Int).toNat * 4 + 2,none⟩ = some (.int .i64 ((rd_T36 t181 t185).f2)):=hcc18 2 _ rfl;have hx18_3 : w31.cell? ⟨go18,(t185 : Int).toNat * 4 + 3,none⟩ = some (.int .i64 ((rd_T36 t181 t185).f3)):=hcc18 3 _ rfl;have hf18_0 : w31.frozen? ⟨go18,(t185 : Int).toNat * 4,none⟩ = false:=hfr18 0;have hf18_1 : w31.frozen? ⟨go18,(t185 : Int).toNat * 4 + 1,none⟩ = false:=hfr18 1;have hf18_2 : w31.frozen? ⟨go18,(t185 : Int).toNat * 4 + 2,none⟩ = false:=hfr18 2;have hf18_3 : w31.frozen? ⟨go18,(t185 : Int).toNat * 4 + 3,none⟩ = false:=hfr18 3;clear hcl18 hcc18 hfr18 hM18;replace p18:=eq_true p18;replace q18:=eq_true q18;have HX32:=Z_ (show Kd.R k36 36 w31 w.heap.size (fun _ => True) (.slice (some ⟨go18,0,none⟩) t181.length ai) t181 from a0.out);obtain ⟨ce32,hcl32,hM32,hcc32,hfr32⟩:=Kd.R_elem HX32.out z36 (t185 : Int) (dA_) (by have h_ : (t185 : Int) < ((t181.length : Int) : Int):=dA_;first | exact h_ | (have e_:=(Kd.R_reads' a0.out).1;omega) | simpa using h_);obtain rfl:=k36_openM hM32;have HP32:=Kd.R_seg HX32.out (t185 : Int) (dA_) (by have h_ : (t185 : Int) < ((t181.length : Int) : Int):=dA_;first | exact h_ | (have e_:=(Kd.R_reads' a0.out).1;omega) | simpa using h_) (seg:=[.int .i64 t194]) (j:=0) hcl32 hcc32 (show 1 ≤ 4 from by decide) (x':=(⟨t194,(rd_T36 t181 t185).f1,(rd_T36 t181 t185).f2,(rd_T36 t181 t185).f3⟩ : S36)) (k36_mkM _ _ _ (⟨t194,(rd_T36 t181 t185).f1,(rd_T36 t181 t185).f2,(rd_T36 t181 t185).f3⟩ : S36) ) (fun _ hk => hk);have hx32_0:=hcc32 0 _ rfl;(try simp only [show (k36).sz = 4 from rfl,Nat.mul_one,Nat.add_zero] at hx32_0);have hf32_0:=hfr32 0;(try simp only [show (k36).sz = 4 from rfl,Nat.mul_one,Nat.add_zero] at hf32_0);clear hcl32 hcc32 hfr32 hM32) | ((with_reducible refine gate_store (t:=2) (p:=31) rfl ?_);refine store_event (t:=2) (p:=31) (v:=?vo_w33) (w1:=(w31.setCell ⟨go18,(t185 : Int).toNat * 4,none⟩ (.int .i64 t194))) ?hg ?ho ?hn ?hr ?_;(case ho => rfl);(case hg => rfl);(case hn => rfl);(case hr => first | (go_simp;done) | (go_simp;rfl));intro w33 hw;have hg : w31.grownBy w33 (some go18):=(by rw [hw];exact HP32.2);have hp_ : Kd.R k36 36 w33 w.heap.size (fun _ => True) (.slice (some ⟨go18,0,none⟩) t181.length ai) y196:=(by rw [hw,av.out];exact HP32.1);clear HP32;replace HI0:=Z_ (IsS117.grown (by repeat (first | (with_reducible first | exact HI0.out | apply IsS117.set_1) | exact HI0.out)) hg (IsS117.own_ne HI0.out a0.out (by decide)));replace HB:=Z_ ((by rw [hw];exact lS1_ (HB.out) (Nat.le_trans HL.out be.out) : Below w0.heap.size w0 w33));replace HK:=Z_ (KeepBut.trans (by repeat (first | (with_reducible first | exact HK.out | apply KeepBut.set_) | exact HK.out)) (KeepBut.of_grown hg g) (Kd.R_base2 a0.out));replace a0:=Z_ (hp_);clear hg hw hp_))
  go_ret
  exact ⟨_,Er_,Rk_ a0,by repeat (first | (with_reducible first | exact HI0.out | apply IsS117.alloc | apply IsS117.drewN | apply IsS117.drew | apply IsS117.set_1) | exact HI0.out),by repeat (first | (with_reducible first | exact HB.out | apply lA1_ | apply lN_ | apply lD_ | refine lS1_ ?_ (IsS117.ge HI0.out)) | exact HB.out),by repeat (first | (with_reducible first | exact HK.out | apply KeepBut.set_ | apply kN_ | apply kD_ | apply kA_) | exact HK.out)⟩
 replace H:=iE_ H
 obtain ⟨c34b0,c34b1,H⟩ | ⟨c34b0,c34b1,H⟩:=H
 ·obtain ⟨y197,hy197⟩ : ∃ y_ : List Int,y_ = (([(-1),t185,0,4611686018427387904] : List Int)):=⟨_,rfl⟩
  replace H : ((spec_l1Pick.f s0_0 t188 y197).bind fun bt200 => (if 0 ≤ t185 then (if t185 < (t181.length : Int) then (some ((t181.set (t185 : Int).toNat (⟨(rd_T36 t181 t185).f0,bt200.1,(rd_T36 t181 t185).f2,(rd_T36 t181 t185).f3⟩ : S36)),bt200.2)) else (none)) else (none))) = some (r1,r2):=by first | (rw [hy197];with_reducible exact H) | (have H2_:=(Option.bind_some _ _).symm.trans H;rw [hy197];with_reducible exact H2_) | (have H2_:=(Option.bind_some _ _).symm.trans H;with_reducible exact H2_) | with_reducible exact H | (rw [hy197];exact H) | exact H
  have aa:=Z_ hy197
  clear hy197
  replace H:=bS_ H
  obtain ⟨⟨t200,t201⟩,c1,H⟩:=H
  try dsimp only at H
  replace H:=iM_ H
  obtain ⟨c36b0,H⟩:=H
  replace H:=iM_ H
  obtain ⟨c37b0,H⟩:=H
  obtain ⟨y202,hy202⟩ : ∃ y_ : List (S36),y_ = (t181.set (t185 : Int).toNat (⟨(rd_T36 t181 t185).f0,t200,(rd_T36 t181 t185).f2,(rd_T36 t181 t185).f3⟩ : S36)):=⟨_,rfl⟩
  replace H : (some (y202,t201)) = some (r1,r2):=by first | (rw [hy202];with_reducible exact H) | (have H2_:=(Option.bind_some _ _).symm.trans H;rw [hy202];with_reducible exact H2_) | (have H2_:=(Option.bind_some _ _).symm.trans H;with_reducible exact H2_) | with_reducible exact H | (rw [hy202];exact H) | exact H
  have aw:=Z_ hy202
  clear hy202
  simp only [Option.some.injEq,Prod.mk.injEq] at H
  obtain ⟨rfl,rfl⟩:=H
  go_enter Try.func36,Try.ntmps36
  go_wp2_with (first | ((with_reducible refine gD_ 7 rfl ?_);refine Kd.R_lit (Kd.int .i64) _ 2 ?hg (N:=7) ?hd (xs:=([6,14,25,40,1] : List Int)) (inner:=[.int .i64 6,.int .i64 14,.int .i64 25,.int .i64 40,.int .i64 1]) (ok:=fun _ => True) (okp:=fun _ => True) ?hr ?hp (fun _ hk => hk) trivial (Below.refl _ _) (Nat.le_refl _) (by simp) ?_;(case hd => rfl);(case hg => rfl);(case hr => first | (go_simp;done) | (go_simp;rfl));(case hp => exact (Reps.one (show Kd.M (Kd.int .i64) _ _ _ 6 [.int .i64 6] from rfl) (Reps.one (show Kd.M (Kd.int .i64) _ _ _ 14 [.int .i64 14] from rfl) (Reps.one (show Kd.M (Kd.int .i64) _ _ _ 25 [.int .i64 25] from rfl) (Reps.one (show Kd.M (Kd.int .i64) _ _ _ 40 [.int .i64 40] from rfl) (Reps.one (show Kd.M (Kd.int .i64) _ _ _ 1 [.int .i64 1] from rfl) (Reps.none _ _)))))));intro v177 w39 ho40 hb hg_ hnew_;clear hg_ hnew_;(first | rw [← a2.out] at ho40 | (simp only [Int.reduceToNat] at ho40;rw [← a2.out] at ho40));have a1:=Z_ (Kd.R_lower ho40 (keep_size (w:=w) (g:=g) (row:=none) (by repeat (first | (with_reducible first | exact HK.out | apply KeepBut.set_ | apply kN_ | apply kD_ | apply kA_) | exact HK.out))));replace HK:=Z_ (KeepBut.trans (by repeat (first | (with_reducible first | exact HK.out | apply KeepBut.set_ | apply kN_ | apply kD_ | apply kA_) | exact HK.out)) (KeepBut.of_below hb g none) (.inl rfl));replace HB:=Z_ (lP_ (by repeat (first | (with_reducible first | exact HB.out | apply lA1_ | apply lN_ | apply lD_ | refine lS1_ ?_ (IsS117.ge HI0.out)) | exact HB.out)) hb);replace HI0:=Z_ (IsS117.below (by repeat (first | (with_reducible first | exact HI0.out | apply IsS117.alloc | apply IsS117.drewN | apply IsS117.drew | apply IsS117.set_1) | exact HI0.out)) hb);clear hb ho40;obtain ⟨bf,bg,eo41⟩:=Kd.R_slice a1.out;subst eo41) | ((with_reducible refine gate_callee (f:=40) rfl ?_);refine goesA_ (some 8) rfl rfl Try.func40 (by kernel_rfl) rfl #[.pointer (some ⟨g,0,none⟩),.slice bf y176.length bg] rfl ?_;(with_reducible refine (spec_l1Pick.calls g s0_0 s0_1 _ _ y176 t179 t180 w0 _ ?side1 ?side2 ?side3 ?side4 ?side5 A2.out).mono ?_);(case side1 => repeat (first | (with_reducible first | exact HI0.out | apply IsS117.set_1) | exact HI0.out));(case side2 => repeat (first | (with_reducible first | exact HB.out | refine lS1_ ?_ (IsS117.ge HI0.out)) | exact HB.out));(case side3 => exact Rc_ a1);(case side4 => exact (Kd.R_reads' a1.out).2.1);(case side5 => exact far_slice (IsS117.own_ne HI0.out a1.out (by decide)));rintro e w42 ⟨rfl,hi,hb,hk⟩;refine ⟨_,rfl,?_⟩;replace a1:=Z_ (Kd.R_mono (Kd.R_keep (IsS117.apart (show IsS117 w0 _ g s0_0 s0_1 from by repeat (first | (with_reducible first | exact HI0.out | apply IsS117.set_1) | exact HI0.out)) a1.out (by decide)) hk (fun _ h => h.2)) (fun _ h => h.1));replace HK:=Z_ (KeepBut.trans (by repeat (first | (with_reducible first | exact HK.out | apply KeepBut.set_) | exact HK.out)) hk (.inl rfl));replace HB:=Z_ (hb);replace HI0:=Z_ (hi);(try clear hb);(try clear hk);(try clear hi)) | ((with_reducible refine gate_callee (f:=75) rfl ?_);refine goesA_ (some 9) rfl rfl Try.func75 (by kernel_rfl) rfl #[.pointer (some ⟨g,0,none⟩),.int .i64 t179] rfl ?_;(with_reducible refine (spec_l5Grow.calls k g s0_0 t180 t179 t181 t184 w0 _ ?side1 ?side2 A3.out).mono ?_);(case side1 => repeat (first | (with_reducible first | exact HI0.out | apply IsS117.set_1) | exact HI0.out));(case side2 => repeat (first | (with_reducible first | exact HB.out | refine lS1_ ?_ (IsS117.ge HI0.out)) | exact HB.out));rintro e w43 ⟨v182,rfl,ho0,hi,hb,hk⟩;refine ⟨_,rfl,?_⟩;replace a1:=Z_ (Kd.R_mono (Kd.R_keep (IsS117.apart (show IsS117 w0 _ g s0_0 t180 from by repeat (first | (with_reducible first | exact HI0.out | apply IsS117.set_1) | exact HI0.out)) a1.out (by decide)) hk (fun _ h => h.2)) (fun _ h => h.1));have a0:=Z_ (Kd.R_lower ho0 (keep_size (w:=w) (g:=g) (row:=none) (by repeat (first | (with_reducible first | exact HK.out | apply KeepBut.set_) | exact HK.out))));replace HK:=Z_ (KeepBut.trans (by repeat (first | (with_reducible first | exact HK.out | apply KeepBut.set_) | exact HK.out)) hk (.inl rfl));replace HB:=Z_ (hb);replace HI0:=Z_ (hi);(try clear hb);(try clear hk);(try clear hi);(try clear ho0);obtain ⟨ce,al,eo44⟩:=Kd.R_slice a0.out;subst eo44) | ((with_reducible refine gate_callee (f:=39) rfl ?_);refine goesA_ (some 17) rfl rfl Try.func39 (by kernel_rfl) rfl #[.pointer (some ⟨g,0,none⟩),.int .i64 (t181.length : Int)] rfl ?_;(with_reducible refine (spec_l1Next.calls g s0_0 t184 (t181.length : Int) t185 t186 w0 _ ?side1 ?side2 a7.out).mono ?_);(case side1 => repeat (first | (with_reducible first | exact HI0.out | apply IsS117.set_1) | exact HI0.out));(case side2 => repeat (first | (with_reducible first | exact HB.out | refine lS1_ ?_ (IsS117.ge HI0.out)) | exact HB.out));rintro e w45 ⟨rfl,hi,hb,hk⟩;refine ⟨_,rfl,?_⟩;replace a1:=Z_ (Kd.R_mono (Kd.R_keep (IsS117.apart (show IsS117 w0 _ g s0_0 t184 from by repeat (first | (with_reducible first | exact HI0.out | apply IsS117.set_1) | exact HI0.out)) a1.out (by decide)) hk (fun _ h => h.2)) (fun _ h => h.1));replace a0:=Z_ (Kd.R_mono (Kd.R_keep (IsS117.apart (show IsS117 w0 _ g s0_0 t184 from by repeat (first | (with_reducible first | exact HI0.out | apply IsS117.set_1) | exact HI0.out)) a0.out (by decide)) hk (fun _ h => h.2)) (fun _ h => h.1));replace HK:=Z_ (KeepBut.trans (by repeat (first | (with_reducible first | exact HK.out | apply KeepBut.set_) | exact HK.out)) hk (.inl rfl));replace HB:=Z_ (hb);replace HI0:=Z_ (hi);(try clear hb);(try clear hk);(try clear hi)) | ((with_reducible refine gate_callee (f:=39) rfl ?_);refine goesA_ (some 19) rfl rfl Try.func39 (by kernel_rfl) rfl #[.pointer (some ⟨g,0,none⟩),.int .i64 24] rfl ?_;(with_reducible refine (spec_l1Next.calls g s0_0 t186 24 t187 t188 w0 _ ?side1 ?side2 a8.out).mono ?_);(case side1 => repeat (first | (with_reducible first | exact HI0.out | apply IsS117.set_1) | exact HI0.out));(case side2 => repeat (first | (with_reducible first | exact HB.out | refine lS1_ ?_ (IsS117.ge HI0.out)) | exact HB.out));rintro e w46 ⟨rfl,hi,hb,hk⟩;refine ⟨_,rfl,?_⟩;replace a1:=Z_ (Kd.R_mono (Kd.R_keep (IsS117.apart (show IsS117 w0 _ g s0_0 t186 from by repeat (first | (with_reducible first | exact HI0.out | apply IsS117.set_1) | exact HI0.out)) a1.out (by decide)) hk (fun _ h => h.2)) (fun _ h => h.1));replace a0:=Z_ (Kd.R_mono (Kd.R_keep (IsS117.apart (show IsS117 w0 _ g s0_0 t186 from by repeat (first | (with_reducible first | exact HI0.out | apply IsS117.set_1) | exact HI0.out)) a0.out (by decide)) hk (fun _ h => h.2)) (fun _ h => h.1));replace HK:=Z_ (KeepBut.trans (by repeat (first | (with_reducible first | exact HK.out | apply KeepBut.set_) | exact HK.out)) hk (.inl rfl));replace HB:=Z_ (hb);replace HI0:=Z_ (hi);(try clear hb);(try clear hk);(try clear hi)) | ((with_reducible refine gD_ 38 rfl ?_);refine Kd.R_lit (Kd.int .i64) _ 2 ?hg (N:=38) ?hd (xs:=([(-1),t185,0,4611686018427387904] : List Int)) (inner:=[.int .i64 (-1),.int .i64 t185,.int .i64 0,.int .i64 4611686018427387904]) (ok:=fun _ => True) (okp:=fun _ => True) ?hr ?hp (fun _ hk => hk) trivial (Below.refl _ _) (Nat.le_refl _) (by simp) ?_;(case hd => rfl);(case hg => rfl);(case hr => first | (go_simp;done) | (go_simp;rfl));(case hp => exact (Reps.one (show Kd.M (Kd.int .i64) _ _ _ (-1) [.int .i64 (-1)] from rfl) (Reps.one (show Kd.M (Kd.int .i64) _ _ _ t185 [.int .i64 t185] from rfl) (Reps.one (show Kd.M (Kd.int .i64) _ _ _ 0 [.int .i64 0] from rfl) (Reps.one (show Kd.M (Kd.int .i64) _ _ _ 4611686018427387904 [.int .i64 4611686018427387904] from rfl) (Reps.none _ _))))));intro v198 w47 ho48 hb hg_ hnew_;clear hg_ hnew_;(first | rw [← aa.out] at ho48 | (simp only [Int.reduceToNat] at ho48;rw [← aa.out] at ho48));replace a0:=Z_ (Kd.R_below a0.out hb);have a4:=Z_ (Kd.R_lower (Kd.R_new' ho48 (Kd.R_lt a1.out)) (keep_size (w:=w) (g:=g) (row:=none) (by repeat (first | (with_reducible first | exact HK.out | apply KeepBut.set_) | exact HK.out))));replace HK:=Z_ (KeepBut.trans (by repeat (first | (with_reducible first | exact HK.out | apply KeepBut.set_) | exact HK.out)) (KeepBut.of_below hb g none) (.inl rfl));replace HB:=Z_ (lP_ (by repeat (first | (with_reducible first | exact HB.out | refine lS1_ ?_ (IsS117.ge HI0.out)) | exact HB.out)) hb);replace HI0:=Z_ (IsS117.below (by repeat (first | (with_reducible first | exact HI0.out | apply IsS117.set_1) | exact HI0.out)) hb);clear hb ho48;obtain ⟨bh,bi,eo49⟩:=Kd.R_slice a4.out;subst eo49) | ((with_reducible refine gate_callee (f:=40) rfl ?_);refine goesA_ (some 39) rfl rfl Try.func40 (by kernel_rfl) rfl #[.pointer (some ⟨g,0,none⟩),.slice bh y197.length bi] rfl ?_;(with_reducible refine (spec_l1Pick.calls g s0_0 t188 _ _ y197 t200 t201 w0 _ ?side1 ?side2 ?side3 ?side4 ?side5 c1.out).mono ?_);(case side1 => repeat (first | (with_reducible first | exact HI0.out | apply IsS117.set_1) | exact HI0.out));(case side2 => repeat (first | (with_reducible first | exact HB.out | refine lS1_ ?_ (IsS117.ge HI0.out)) | exact HB.out));(case side3 => exact Rc_ a4);(case side4 => exact (Kd.R_reads' a4.out).2.1);(case side5 => exact far_slice (IsS117.own_ne HI0.out a4.out (by decide)));rintro e w50 ⟨rfl,hi,hb,hk⟩;refine ⟨_,rfl,?_⟩;replace a0:=Z_ (Kd.R_mono (Kd.R_keep (IsS117.apart (show IsS117 w0 _ g s0_0 t188 from by repeat (first | (with_reducible first | exact HI0.out | apply IsS117.set_1) | exact HI0.out)) a0.out (by decide)) hk (fun _ h => h.2)) (fun _ h => h.1));replace HK:=Z_ (KeepBut.trans (by repeat (first | (with_reducible first | exact HK.out | apply KeepBut.set_) | exact HK.out)) hk (.inl rfl));replace HB:=Z_ (hb);replace HI0:=Z_ (hi);(try clear hb);(try clear hk);(try clear hi);have p38 : 0 ≤ (t185 : Int):=dA_;have q38 : (t185 : Int) < ((t181.length : Int) : Int):=dA_;obtain ⟨go38,cf,eo38,am,gl38,cl38,HG38⟩:=Kd.R_form a0.out (by omega);(first | cases eo38 | (injection eo38 with ea_ en_ ec_;(first | subst ea_ | (injection ea_ with ea_;subst ea_));subst ec_;clear en_));have bj:=Z_ am;have GG38:=Z_ HG38;clear am gl38 HG38;obtain ⟨ce38,hcl38,hM38,hcc38,hfr38⟩:=Kd.R_elem a0.out z36 (t185 : Int) p38 q38;obtain rfl:=k36_openM hM38;have hx38_0 : w50.cell? ⟨go38,(t185 : Int).toNat * 4,none⟩ = some (.int .i64 ((rd_T36 t181 t185).f0)):=hcc38 0 _ rfl;have hx38_1 : w50.cell? ⟨go38,(t185 : Int).toNat * 4 + 1,none⟩ = some (.int .i64 ((rd_T36 t181 t185).f1)):=hcc38 1 _ rfl;have hx38_2 : w50.cell? ⟨go38,(t185 : Int).toNat * 4 + 2,none⟩ = some (.int .i64 ((rd_T36 t181 t185).f2)):=hcc38 2 _ rfl;have hx38_3 : w50.cell? ⟨go38,(t185 : Int).toNat * 4 + 3,none⟩ = some (.int .i64 ((rd_T36 t181 t185).f3)):=hcc38 3 _ rfl;have hf38_0 : w50.frozen? ⟨go38,(t185 : Int).toNat * 4,none⟩ = false:=hfr38 0;have hf38_1 : w50.frozen? ⟨go38,(t185 : Int).toNat * 4 + 1,none⟩ = false:=hfr38 1;have hf38_2 : w50.frozen? ⟨go38,(t185 : Int).toNat * 4 + 2,none⟩ = false:=hfr38 2;have hf38_3 : w50.frozen? ⟨go38,(t185 : Int).toNat * 4 + 3,none⟩ = false:=hfr38 3;clear hcl38 hcc38 hfr38 hM38;replace p38:=eq_true p38;replace q38:=eq_true q38;have HX51:=Z_ (show Kd.R k36 36 w50 w.heap.size (fun _ => True) (.slice (some ⟨go38,0,none⟩) t181.length al) t181 from a0.out);obtain ⟨ce51,hcl51,hM51,hcc51,hfr51⟩:=Kd.R_elem HX51.out z36 (t185 : Int) (dA_) (by have h_ : (t185 : Int) < ((t181.length : Int) : Int):=dA_;first | exact h_ | (have e_:=(Kd.R_reads' a0.out).1;omega) | simpa using h_);obtain rfl:=k36_openM hM51;have HP51:=Kd.R_seg HX51.out (t185 : Int) (dA_) (by have h_ : (t185 : Int) < ((t181.length : Int) : Int):=dA_;first | exact h_ | (have e_:=(Kd.R_reads' a0.out).1;omega) | simpa using h_) (seg:=[.int .i64 t200]) (j:=1) hcl51 hcc51 (show 2 ≤ 4 from by decide) (x':=(⟨(rd_T36 t181 t185).f0,t200,(rd_T36 t181 t185).f2,(rd_T36 t181 t185).f3⟩ : S36)) (k36_mkM _ _ _ (⟨(rd_T36 t181 t185).f0,t200,(rd_T36 t181 t185).f2,(rd_T36 t181 t185).f3⟩ : S36) ) (fun _ hk => hk);have hx51_1:=hcc51 1 _ rfl;(try simp only [show (k36).sz = 4 from rfl,Nat.mul_one,Nat.add_zero] at hx51_1);have hf51_1:=hfr51 1;(try simp only [show (k36).sz = 4 from rfl,Nat.mul_one,Nat.add_zero] at hf51_1);clear hcl51 hcc51 hfr51 hM51) | ((with_reducible refine gate_store (t:=2) (p:=41) rfl ?_);refine store_event (t:=2) (p:=41) (v:=?vo_w52) (w1:=(w50.setCell ⟨go38,(t185 : Int).toNat * 4 + 1,none⟩ (.int .i64 t200))) ?hg ?ho ?hn ?hr ?_;(case ho => rfl);(case hg => rfl);(case hn => rfl);(case hr => first | (go_simp;done) | (go_simp;rfl));intro w52 hw;have hg : w50.grownBy w52 (some go38):=(by rw [hw];exact HP51.2);have hp_ : Kd.R k36 36 w52 w.heap.size (fun _ => True) (.slice (some ⟨go38,0,none⟩) t181.length al) y202:=(by rw [hw,aw.out];exact HP51.1);clear HP51;replace HI0:=Z_ (IsS117.grown (by repeat (first | (with_reducible first | exact HI0.out | apply IsS117.set_1) | exact HI0.out)) hg (IsS117.own_ne HI0.out a0.out (by decide)));replace HB:=Z_ ((by rw [hw];exact lS1_ (HB.out) (Nat.le_trans HL.out bj.out) : Below w0.heap.size w0 w52));replace HK:=Z_ (KeepBut.trans (by repeat (first | (with_reducible first | exact HK.out | apply KeepBut.set_) | exact HK.out)) (KeepBut.of_grown hg g) (Kd.R_base2 a0.out));replace a0:=Z_ (hp_);clear hg hw hp_))
  go_ret
  exact ⟨_,Er_,Rk_ a0,by repeat (first | (with_reducible first | exact HI0.out | apply IsS117.alloc | apply IsS117.drewN | apply IsS117.drew | apply IsS117.set_1) | exact HI0.out),by repeat (first | (with_reducible first | exact HB.out | apply lA1_ | apply lN_ | apply lD_ | refine lS1_ ?_ (IsS117.ge HI0.out)) | exact HB.out),by repeat (first | (with_reducible first | exact HK.out | apply KeepBut.set_ | apply kN_ | apply kD_ | apply kA_) | exact HK.out)⟩
 replace H:=iE_ H
 obtain ⟨c53b0,c53b1,H⟩ | ⟨c53b0,c53b1,H⟩:=H
 ·obtain ⟨y203,hy203⟩ : ∃ y_ : List Int,y_ = (([(-1),t185,1] : List Int)):=⟨_,rfl⟩
  replace H : ((spec_l1Pick.f s0_0 t188 y203).bind fun bt206 => (if 0 ≤ t185 then (if t185 < (t181.length : Int) then (some ((t181.set (t185 : Int).toNat (⟨(rd_T36 t181 t185).f0,(rd_T36 t181 t185).f1,bt206.1,(rd_T36 t181 t185).f3⟩ : S36)),bt206.2)) else (none)) else (none))) = some (r1,r2):=by first | (rw [hy203];with_reducible exact H) | (have H2_:=(Option.bind_some _ _).symm.trans H;rw [hy203];with_reducible exact H2_) | (have H2_:=(Option.bind_some _ _).symm.trans H;with_reducible exact H2_) | with_reducible exact H | (rw [hy203];exact H) | exact H
  have ab:=Z_ hy203
  clear hy203
  replace H:=bS_ H
  obtain ⟨⟨t206,t207⟩,c2,H⟩:=H
  try dsimp only at H
  replace H:=iM_ H
  obtain ⟨c55b0,H⟩:=H
  replace H:=iM_ H
  obtain ⟨c56b0,H⟩:=H
  obtain ⟨y208,hy208⟩ : ∃ y_ : List (S36),y_ = (t181.set (t185 : Int).toNat (⟨(rd_T36 t181 t185).f0,(rd_T36 t181 t185).f1,t206,(rd_T36 t181 t185).f3⟩ : S36)):=⟨_,rfl⟩
  replace H : (some (y208,t207)) = some (r1,r2):=by first | (rw [hy208];with_reducible exact H) | (have H2_:=(Option.bind_some _ _).symm.trans H;rw [hy208];with_reducible exact H2_) | (have H2_:=(Option.bind_some _ _).symm.trans H;with_reducible exact H2_) | with_reducible exact H | (rw [hy208];exact H) | exact H
  have ax:=Z_ hy208
  clear hy208
  simp only [Option.some.injEq,Prod.mk.injEq] at H
  obtain ⟨rfl,rfl⟩:=H
  go_enter Try.func36,Try.ntmps36
  go_wp2_with (first | ((with_reducible refine gD_ 7 rfl ?_);refine Kd.R_lit (Kd.int .i64) _ 2 ?hg (N:=7) ?hd (xs:=([6,14,25,40,1] : List Int)) (inner:=[.int .i64 6,.int .i64 14,.int .i64 25,.int .i64 40,.int .i64 1]) (ok:=fun _ => True) (okp:=fun _ => True) ?hr ?hp (fun _ hk => hk) trivial (Below.refl _ _) (Nat.le_refl _) (by simp) ?_;(case hd => rfl);(case hg => rfl);(case hr => first | (go_simp;done) | (go_simp;rfl));(case hp => exact (Reps.one (show Kd.M (Kd.int .i64) _ _ _ 6 [.int .i64 6] from rfl) (Reps.one (show Kd.M (Kd.int .i64) _ _ _ 14 [.int .i64 14] from rfl) (Reps.one (show Kd.M (Kd.int .i64) _ _ _ 25 [.int .i64 25] from rfl) (Reps.one (show Kd.M (Kd.int .i64) _ _ _ 40 [.int .i64 40] from rfl) (Reps.one (show Kd.M (Kd.int .i64) _ _ _ 1 [.int .i64 1] from rfl) (Reps.none _ _)))))));intro v177 w58 ho59 hb hg_ hnew_;clear hg_ hnew_;(first | rw [← a2.out] at ho59 | (simp only [Int.reduceToNat] at ho59;rw [← a2.out] at ho59));have a1:=Z_ (Kd.R_lower ho59 (keep_size (w:=w) (g:=g) (row:=none) (by repeat (first | (with_reducible first | exact HK.out | apply KeepBut.set_ | apply kN_ | apply kD_ | apply kA_) | exact HK.out))));replace HK:=Z_ (KeepBut.trans (by repeat (first | (with_reducible first | exact HK.out | apply KeepBut.set_ | apply kN_ | apply kD_ | apply kA_) | exact HK.out)) (KeepBut.of_below hb g none) (.inl rfl));replace HB:=Z_ (lP_ (by repeat (first | (with_reducible first | exact HB.out | apply lA1_ | apply lN_ | apply lD_ | refine lS1_ ?_ (IsS117.ge HI0.out)) | exact HB.out)) hb);replace HI0:=Z_ (IsS117.below (by repeat (first | (with_reducible first | exact HI0.out | apply IsS117.alloc | apply IsS117.drewN | apply IsS117.drew | apply IsS117.set_1) | exact HI0.out)) hb);clear hb ho59;obtain ⟨bk,bl,eo60⟩:=Kd.R_slice a1.out;subst eo60) | ((with_reducible refine gate_callee (f:=40) rfl ?_);refine goesA_ (some 8) rfl rfl Try.func40 (by kernel_rfl) rfl #[.pointer (some ⟨g,0,none⟩),.slice bk y176.length bl] rfl ?_;(with_reducible refine (spec_l1Pick.calls g s0_0 s0_1 _ _ y176 t179 t180 w0 _ ?side1 ?side2 ?side3 ?side4 ?side5 A2.out).mono ?_);(case side1 => repeat (first | (with_reducible first | exact HI0.out | apply IsS117.set_1) | exact HI0.out));(case side2 => repeat (first | (with_reducible first | exact HB.out | refine lS1_ ?_ (IsS117.ge HI0.out)) | exact HB.out));(case side3 => exact Rc_ a1);(case side4 => exact (Kd.R_reads' a1.out).2.1);(case side5 => exact far_slice (IsS117.own_ne HI0.out a1.out (by decide)));rintro e w61 ⟨rfl,hi,hb,hk⟩;refine ⟨_,rfl,?_⟩;replace a1:=Z_ (Kd.R_mono (Kd.R_keep (IsS117.apart (show IsS117 w0 _ g s0_0 s0_1 from by repeat (first | (with_reducible first | exact HI0.out | apply IsS117.set_1) | exact HI0.out)) a1.out (by decide)) hk (fun _ h => h.2)) (fun _ h => h.1));replace HK:=Z_ (KeepBut.trans (by repeat (first | (with_reducible first | exact HK.out | apply KeepBut.set_) | exact HK.out)) hk (.inl rfl));replace HB:=Z_ (hb);replace HI0:=Z_ (hi);(try clear hb);(try clear hk);(try clear hi)) | ((with_reducible refine gate_callee (f:=75) rfl ?_);refine goesA_ (some 9) rfl rfl Try.func75 (by kernel_rfl) rfl #[.pointer (some ⟨g,0,none⟩),.int .i64 t179] rfl ?_;(with_reducible refine (spec_l5Grow.calls k g s0_0 t180 t179 t181 t184 w0 _ ?side1 ?side2 A3.out).mono ?_);(case side1 => repeat (first | (with_reducible first | exact HI0.out | apply IsS117.set_1) | exact HI0.out));(case side2 => repeat (first | (with_reducible first | exact HB.out | refine lS1_ ?_ (IsS117.ge HI0.out)) | exact HB.out));rintro e w62 ⟨v182,rfl,ho0,hi,hb,hk⟩;refine ⟨_,rfl,?_⟩;replace a1:=Z_ (Kd.R_mono (Kd.R_keep (IsS117.apart (show IsS117 w0 _ g s0_0 t180 from by repeat (first | (with_reducible first | exact HI0.out | apply IsS117.set_1) | exact HI0.out)) a1.out (by decide)) hk (fun _ h => h.2)) (fun _ h => h.1));have a0:=Z_ (Kd.R_lower ho0 (keep_size (w:=w) (g:=g) (row:=none) (by repeat (first | (with_reducible first | exact HK.out | apply KeepBut.set_) | exact HK.out))));replace HK:=Z_ (KeepBut.trans (by repeat (first | (with_reducible first | exact HK.out | apply KeepBut.set_) | exact HK.out)) hk (.inl rfl));replace HB:=Z_ (hb);replace HI0:=Z_ (hi);(try clear hb);(try clear hk);(try clear hi);(try clear ho0);obtain ⟨cg,ao,eo63⟩:=Kd.R_slice a0.out;subst eo63) | ((with_reducible refine gate_callee (f:=39) rfl ?_);refine goesA_ (some 17) rfl rfl Try.func39 (by kernel_rfl) rfl #[.pointer (some ⟨g,0,none⟩),.int .i64 (t181.length : Int)] rfl ?_;(with_reducible refine (spec_l1Next.calls g s0_0 t184 (t181.length : Int) t185 t186 w0 _ ?side1 ?side2 a7.out).mono ?_);(case side1 => repeat (first | (with_reducible first | exact HI0.out | apply IsS117.set_1) | exact HI0.out));(case side2 => repeat (first | (with_reducible first | exact HB.out | refine lS1_ ?_ (IsS117.ge HI0.out)) | exact HB.out));rintro e w64 ⟨rfl,hi,hb,hk⟩;refine ⟨_,rfl,?_⟩;replace a1:=Z_ (Kd.R_mono (Kd.R_keep (IsS117.apart (show IsS117 w0 _ g s0_0 t184 from by repeat (first | (with_reducible first | exact HI0.out | apply IsS117.set_1) | exact HI0.out)) a1.out (by decide)) hk (fun _ h => h.2)) (fun _ h => h.1));replace a0:=Z_ (Kd.R_mono (Kd.R_keep (IsS117.apart (show IsS117 w0 _ g s0_0 t184 from by repeat (first | (with_reducible first | exact HI0.out | apply IsS117.set_1) | exact HI0.out)) a0.out (by decide)) hk (fun _ h => h.2)) (fun _ h => h.1));replace HK:=Z_ (KeepBut.trans (by repeat (first | (with_reducible first | exact HK.out | apply KeepBut.set_) | exact HK.out)) hk (.inl rfl));replace HB:=Z_ (hb);replace HI0:=Z_ (hi);(try clear hb);(try clear hk);(try clear hi)) | ((with_reducible refine gate_callee (f:=39) rfl ?_);refine goesA_ (some 19) rfl rfl Try.func39 (by kernel_rfl) rfl #[.pointer (some ⟨g,0,none⟩),.int .i64 24] rfl ?_;(with_reducible refine (spec_l1Next.calls g s0_0 t186 24 t187 t188 w0 _ ?side1 ?side2 a8.out).mono ?_);(case side1 => repeat (first | (with_reducible first | exact HI0.out | apply IsS117.set_1) | exact HI0.out));(case side2 => repeat (first | (with_reducible first | exact HB.out | refine lS1_ ?_ (IsS117.ge HI0.out)) | exact HB.out));rintro e w65 ⟨rfl,hi,hb,hk⟩;refine ⟨_,rfl,?_⟩;replace a1:=Z_ (Kd.R_mono (Kd.R_keep (IsS117.apart (show IsS117 w0 _ g s0_0 t186 from by repeat (first | (with_reducible first | exact HI0.out | apply IsS117.set_1) | exact HI0.out)) a1.out (by decide)) hk (fun _ h => h.2)) (fun _ h => h.1));replace a0:=Z_ (Kd.R_mono (Kd.R_keep (IsS117.apart (show IsS117 w0 _ g s0_0 t186 from by repeat (first | (with_reducible first | exact HI0.out | apply IsS117.set_1) | exact HI0.out)) a0.out (by decide)) hk (fun _ h => h.2)) (fun _ h => h.1));replace HK:=Z_ (KeepBut.trans (by repeat (first | (with_reducible first | exact HK.out | apply KeepBut.set_) | exact HK.out)) hk (.inl rfl));replace HB:=Z_ (hb);replace HI0:=Z_ (hi);(try clear hb);(try clear hk);(try clear hi)) | ((with_reducible refine gD_ 48 rfl ?_);refine Kd.R_lit (Kd.int .i64) _ 2 ?hg (N:=48) ?hd (xs:=([(-1),t185,1] : List Int)) (inner:=[.int .i64 (-1),.int .i64 t185,.int .i64 1]) (ok:=fun _ => True) (okp:=fun _ => True) ?hr ?hp (fun _ hk => hk) trivial (Below.refl _ _) (Nat.le_refl _) (by simp) ?_;(case hd => rfl);(case hg => rfl);(case hr => first | (go_simp;done) | (go_simp;rfl));(case hp => exact (Reps.one (show Kd.M (Kd.int .i64) _ _ _ (-1) [.int .i64 (-1)] from rfl) (Reps.one (show Kd.M (Kd.int .i64) _ _ _ t185 [.int .i64 t185] from rfl) (Reps.one (show Kd.M (Kd.int .i64) _ _ _ 1 [.int .i64 1] from rfl) (Reps.none _ _)))));intro v204 w66 ho67 hb hg_ hnew_;clear hg_ hnew_;(first | rw [← ab.out] at ho67 | (simp only [Int.reduceToNat] at ho67;rw [← ab.out] at ho67));replace a0:=Z_ (Kd.R_below a0.out hb);have a5:=Z_ (Kd.R_lower (Kd.R_new' ho67 (Kd.R_lt a1.out)) (keep_size (w:=w) (g:=g) (row:=none) (by repeat (first | (with_reducible first | exact HK.out | apply KeepBut.set_) | exact HK.out))));replace HK:=Z_ (KeepBut.trans (by repeat (first | (with_reducible first | exact HK.out | apply KeepBut.set_) | exact HK.out)) (KeepBut.of_below hb g none) (.inl rfl));replace HB:=Z_ (lP_ (by repeat (first | (with_reducible first | exact HB.out | refine lS1_ ?_ (IsS117.ge HI0.out)) | exact HB.out)) hb);replace HI0:=Z_ (IsS117.below (by repeat (first | (with_reducible first | exact HI0.out | apply IsS117.set_1) | exact HI0.out)) hb);clear hb ho67;obtain ⟨bm,bn,eo68⟩:=Kd.R_slice a5.out;subst eo68) | ((with_reducible refine gate_callee (f:=40) rfl ?_);refine goesA_ (some 49) rfl rfl Try.func40 (by kernel_rfl) rfl #[.pointer (some ⟨g,0,none⟩),.slice bm y203.length bn] rfl ?_;(with_reducible refine (spec_l1Pick.calls g s0_0 t188 _ _ y203 t206 t207 w0 _ ?side1 ?side2 ?side3 ?side4 ?side5 c2.out).mono ?_);(case side1 => repeat (first | (with_reducible first | exact HI0.out | apply IsS117.set_1) | exact HI0.out));(case side2 => repeat (first | (with_reducible first | exact HB.out | refine lS1_ ?_ (IsS117.ge HI0.out)) | exact HB.out));(case side3 => exact Rc_ a5);(case side4 => exact (Kd.R_reads' a5.out).2.1);(case side5 => exact far_slice (IsS117.own_ne HI0.out a5.out (by decide)));rintro e w69 ⟨rfl,hi,hb,hk⟩;refine ⟨_,rfl,?_⟩;replace a0:=Z_ (Kd.R_mono (Kd.R_keep (IsS117.apart (show IsS117 w0 _ g s0_0 t188 from by repeat (first | (with_reducible first | exact HI0.out | apply IsS117.set_1) | exact HI0.out)) a0.out (by decide)) hk (fun _ h => h.2)) (fun _ h => h.1));replace HK:=Z_ (KeepBut.trans (by repeat (first | (with_reducible first | exact HK.out | apply KeepBut.set_) | exact HK.out)) hk (.inl rfl));replace HB:=Z_ (hb);replace HI0:=Z_ (hi);(try clear hb);(try clear hk);(try clear hi);have p57 : 0 ≤ (t185 : Int):=dA_;have q57 : (t185 : Int) < ((t181.length : Int) : Int):=dA_;obtain ⟨go57,ch,eo57,ap,gl57,cl57,HG57⟩:=Kd.R_form a0.out (by omega);(first | cases eo57 | (injection eo57 with ea_ en_ ec_;(first | subst ea_ | (injection ea_ with ea_;subst ea_));subst ec_;clear en_));have bo:=Z_ ap;have GG57:=Z_ HG57;clear ap gl57 HG57;obtain ⟨ce57,hcl57,hM57,hcc57,hfr57⟩:=Kd.R_elem a0.out z36 (t185 : Int) p57 q57;obtain rfl:=k36_openM hM57;have hx57_0 : w69.cell? ⟨go57,(t185 : Int).toNat * 4,none⟩ = some (.int .i64 ((rd_T36 t181 t185).f0)):=hcc57 0 _ rfl;have hx57_1 : w69.cell? ⟨go57,(t185 : Int).toNat * 4 + 1,none⟩ = some (.int .i64 ((rd_T36 t181 t185).f1)):=hcc57 1 _ rfl;have hx57_2 : w69.cell? ⟨go57,(t185 : Int).toNat * 4 + 2,none⟩ = some (.int .i64 ((rd_T36 t181 t185).f2)):=hcc57 2 _ rfl;have hx57_3 : w69.cell? ⟨go57,(t185 : Int).toNat * 4 + 3,none⟩ = some (.int .i64 ((rd_T36 t181 t185).f3)):=hcc57 3 _ rfl;have hf57_0 : w69.frozen? ⟨go57,(t185 : Int).toNat * 4,none⟩ = false:=hfr57 0;have hf57_1 : w69.frozen? ⟨go57,(t185 : Int).toNat * 4 + 1,none⟩ = false:=hfr57 1;have hf57_2 : w69.frozen? ⟨go57,(t185 : Int).toNat * 4 + 2,none⟩ = false:=hfr57 2;have hf57_3 : w69.frozen? ⟨go57,(t185 : Int).toNat * 4 + 3,none⟩ = false:=hfr57 3;clear hcl57 hcc57 hfr57 hM57;replace p57:=eq_true p57;replace q57:=eq_true q57;have HX70:=Z_ (show Kd.R k36 36 w69 w.heap.size (fun _ => True) (.slice (some ⟨go57,0,none⟩) t181.length ao) t181 from a0.out);obtain ⟨ce70,hcl70,hM70,hcc70,hfr70⟩:=Kd.R_elem HX70.out z36 (t185 : Int) (dA_) (by have h_ : (t185 : Int) < ((t181.length : Int) : Int):=dA_;first | exact h_ | (have e_:=(Kd.R_reads' a0.out).1;omega) | simpa using h_);obtain rfl:=k36_openM hM70;have HP70:=Kd.R_seg HX70.out (t185 : Int) (dA_) (by have h_ : (t185 : Int) < ((t181.length : Int) : Int):=dA_;first | exact h_ | (have e_:=(Kd.R_reads' a0.out).1;omega) | simpa using h_) (seg:=[.int .i64 t206]) (j:=2) hcl70 hcc70 (show 3 ≤ 4 from by decide) (x':=(⟨(rd_T36 t181 t185).f0,(rd_T36 t181 t185).f1,t206,(rd_T36 t181 t185).f3⟩ : S36)) (k36_mkM _ _ _ (⟨(rd_T36 t181 t185).f0,(rd_T36 t181 t185).f1,t206,(rd_T36 t181 t185).f3⟩ : S36) ) (fun _ hk => hk);have hx70_2:=hcc70 2 _ rfl;(try simp only [show (k36).sz = 4 from rfl,Nat.mul_one,Nat.add_zero] at hx70_2);have hf70_2:=hfr70 2;(try simp only [show (k36).sz = 4 from rfl,Nat.mul_one,Nat.add_zero] at hf70_2);clear hcl70 hcc70 hfr70 hM70) | ((with_reducible refine gate_store (t:=2) (p:=51) rfl ?_);refine store_event (t:=2) (p:=51) (v:=?vo_w71) (w1:=(w69.setCell ⟨go57,(t185 : Int).toNat * 4 + 2,none⟩ (.int .i64 t206))) ?hg ?ho ?hn ?hr ?_;(case ho => rfl);(case hg => rfl);(case hn => rfl);(case hr => first | (go_simp;done) | (go_simp;rfl));intro w71 hw;have hg : w69.grownBy w71 (some go57):=(by rw [hw];exact HP70.2);have hp_ : Kd.R k36 36 w71 w.heap.size (fun _ => True) (.slice (some ⟨go57,0,none⟩) t181.length ao) y208:=(by rw [hw,ax.out];exact HP70.1);clear HP70;replace HI0:=Z_ (IsS117.grown (by repeat (first | (with_reducible first | exact HI0.out | apply IsS117.set_1) | exact HI0.out)) hg (IsS117.own_ne HI0.out a0.out (by decide)));replace HB:=Z_ ((by rw [hw];exact lS1_ (HB.out) (Nat.le_trans HL.out bo.out) : Below w0.heap.size w0 w71));replace HK:=Z_ (KeepBut.trans (by repeat (first | (with_reducible first | exact HK.out | apply KeepBut.set_) | exact HK.out)) (KeepBut.of_grown hg g) (Kd.R_base2 a0.out));replace a0:=Z_ (hp_);clear hg hw hp_))
  go_ret
  exact ⟨_,Er_,Rk_ a0,by repeat (first | (with_reducible first | exact HI0.out | apply IsS117.alloc | apply IsS117.drewN | apply IsS117.drew | apply IsS117.set_1) | exact HI0.out),by repeat (first | (with_reducible first | exact HB.out | apply lA1_ | apply lN_ | apply lD_ | refine lS1_ ?_ (IsS117.ge HI0.out)) | exact HB.out),by repeat (first | (with_reducible first | exact HK.out | apply KeepBut.set_ | apply kN_ | apply kD_ | apply kA_) | exact HK.out)⟩
 replace H:=iE_ H
 obtain ⟨c72b0,c72b1,H⟩ | ⟨c72b0,c72b1,H⟩:=H
 ·obtain ⟨y209,hy209⟩ : ∃ y_ : List Int,y_ = (([(-1),10000,1] : List Int)):=⟨_,rfl⟩
  replace H : ((spec_l1Pick.f s0_0 t188 y209).bind fun bt212 => (if 0 ≤ t185 then (if t185 < (t181.length : Int) then (some ((t181.set (t185 : Int).toNat (⟨(rd_T36 t181 t185).f0,(rd_T36 t181 t185).f1,(rd_T36 t181 t185).f2,bt212.1⟩ : S36)),bt212.2)) else (none)) else (none))) = some (r1,r2):=by first | (rw [hy209];with_reducible exact H) | (have H2_:=(Option.bind_some _ _).symm.trans H;rw [hy209];with_reducible exact H2_) | (have H2_:=(Option.bind_some _ _).symm.trans H;with_reducible exact H2_) | with_reducible exact H | (rw [hy209];exact H) | exact H
  have ac:=Z_ hy209
  clear hy209
  replace H:=bS_ H
  obtain ⟨⟨t212,t213⟩,c3,H⟩:=H
  try dsimp only at H
  replace H:=iM_ H
  obtain ⟨c74b0,H⟩:=H
  replace H:=iM_ H
  obtain ⟨c75b0,H⟩:=H
  obtain ⟨y214,hy214⟩ : ∃ y_ : List (S36),y_ = (t181.set (t185 : Int).toNat (⟨(rd_T36 t181 t185).f0,(rd_T36 t181 t185).f1,(rd_T36 t181 t185).f2,t212⟩ : S36)):=⟨_,rfl⟩
  replace H : (some (y214,t213)) = some (r1,r2):=by first | (rw [hy214];with_reducible exact H) | (have H2_:=(Option.bind_some _ _).symm.trans H;rw [hy214];with_reducible exact H2_) | (have H2_:=(Option.bind_some _ _).symm.trans H;with_reducible exact H2_) | with_reducible exact H | (rw [hy214];exact H) | exact H
  have ay:=Z_ hy214
  clear hy214
  simp only [Option.some.injEq,Prod.mk.injEq] at H
  obtain ⟨rfl,rfl⟩:=H
  go_enter Try.func36,Try.ntmps36
  go_wp2_with (first | ((with_reducible refine gD_ 7 rfl ?_);refine Kd.R_lit (Kd.int .i64) _ 2 ?hg (N:=7) ?hd (xs:=([6,14,25,40,1] : List Int)) (inner:=[.int .i64 6,.int .i64 14,.int .i64 25,.int .i64 40,.int .i64 1]) (ok:=fun _ => True) (okp:=fun _ => True) ?hr ?hp (fun _ hk => hk) trivial (Below.refl _ _) (Nat.le_refl _) (by simp) ?_;(case hd => rfl);(case hg => rfl);(case hr => first | (go_simp;done) | (go_simp;rfl));(case hp => exact (Reps.one (show Kd.M (Kd.int .i64) _ _ _ 6 [.int .i64 6] from rfl) (Reps.one (show Kd.M (Kd.int .i64) _ _ _ 14 [.int .i64 14] from rfl) (Reps.one (show Kd.M (Kd.int .i64) _ _ _ 25 [.int .i64 25] from rfl) (Reps.one (show Kd.M (Kd.int .i64) _ _ _ 40 [.int .i64 40] from rfl) (Reps.one (show Kd.M (Kd.int .i64) _ _ _ 1 [.int .i64 1] from rfl) (Reps.none _ _)))))));intro v177 w77 ho78 hb hg_ hnew_;clear hg_ hnew_;(first | rw [← a2.out] at ho78 | (simp only [Int.reduceToNat] at ho78;rw [← a2.out] at ho78));have a1:=Z_ (Kd.R_lower ho78 (keep_size (w:=w) (g:=g) (row:=none) (by repeat (first | (with_reducible first | exact HK.out | apply KeepBut.set_ | apply kN_ | apply kD_ | apply kA_) | exact HK.out))));replace HK:=Z_ (KeepBut.trans (by repeat (first | (with_reducible first | exact HK.out | apply KeepBut.set_ | apply kN_ | apply kD_ | apply kA_) | exact HK.out)) (KeepBut.of_below hb g none) (.inl rfl));replace HB:=Z_ (lP_ (by repeat (first | (with_reducible first | exact HB.out | apply lA1_ | apply lN_ | apply lD_ | refine lS1_ ?_ (IsS117.ge HI0.out)) | exact HB.out)) hb);replace HI0:=Z_ (IsS117.below (by repeat (first | (with_reducible first | exact HI0.out | apply IsS117.alloc | apply IsS117.drewN | apply IsS117.drew | apply IsS117.set_1) | exact HI0.out)) hb);clear hb ho78;obtain ⟨bp,bq,eo79⟩:=Kd.R_slice a1.out;subst eo79) | ((with_reducible refine gate_callee (f:=40) rfl ?_);refine goesA_ (some 8) rfl rfl Try.func40 (by kernel_rfl) rfl #[.pointer (some ⟨g,0,none⟩),.slice bp y176.length bq] rfl ?_;(with_reducible refine (spec_l1Pick.calls g s0_0 s0_1 _ _ y176 t179 t180 w0 _ ?side1 ?side2 ?side3 ?side4 ?side5 A2.out).mono ?_);(case side1 => repeat (first | (with_reducible first | exact HI0.out | apply IsS117.set_1) | exact HI0.out));(case side2 => repeat (first | (with_reducible first | exact HB.out | refine lS1_ ?_ (IsS117.ge HI0.out)) | exact HB.out));(case side3 => exact Rc_ a1);(case side4 => exact (Kd.R_reads' a1.out).2.1);(case side5 => exact far_slice (IsS117.own_ne HI0.out a1.out (by decide)));rintro e w80 ⟨rfl,hi,hb,hk⟩;refine ⟨_,rfl,?_⟩;replace a1:=Z_ (Kd.R_mono (Kd.R_keep (IsS117.apart (show IsS117 w0 _ g s0_0 s0_1 from by repeat (first | (with_reducible first | exact HI0.out | apply IsS117.set_1) | exact HI0.out)) a1.out (by decide)) hk (fun _ h => h.2)) (fun _ h => h.1));replace HK:=Z_ (KeepBut.trans (by repeat (first | (with_reducible first | exact HK.out | apply KeepBut.set_) | exact HK.out)) hk (.inl rfl));replace HB:=Z_ (hb);replace HI0:=Z_ (hi);(try clear hb);(try clear hk);(try clear hi)) | ((with_reducible refine gate_callee (f:=75) rfl ?_);refine goesA_ (some 9) rfl rfl Try.func75 (by kernel_rfl) rfl #[.pointer (some ⟨g,0,none⟩),.int .i64 t179] rfl ?_;(with_reducible refine (spec_l5Grow.calls k g s0_0 t180 t179 t181 t184 w0 _ ?side1 ?side2 A3.out).mono ?_);(case side1 => repeat (first | (with_reducible first | exact HI0.out | apply IsS117.set_1) | exact HI0.out));(case side2 => repeat (first | (with_reducible first | exact HB.out | refine lS1_ ?_ (IsS117.ge HI0.out)) | exact HB.out));rintro e w81 ⟨v182,rfl,ho0,hi,hb,hk⟩;refine ⟨_,rfl,?_⟩;replace a1:=Z_ (Kd.R_mono (Kd.R_keep (IsS117.apart (show IsS117 w0 _ g s0_0 t180 from by repeat (first | (with_reducible first | exact HI0.out | apply IsS117.set_1) | exact HI0.out)) a1.out (by decide)) hk (fun _ h => h.2)) (fun _ h => h.1));have a0:=Z_ (Kd.R_lower ho0 (keep_size (w:=w) (g:=g) (row:=none) (by repeat (first | (with_reducible first | exact HK.out | apply KeepBut.set_) | exact HK.out))));replace HK:=Z_ (KeepBut.trans (by repeat (first | (with_reducible first | exact HK.out | apply KeepBut.set_) | exact HK.out)) hk (.inl rfl));replace HB:=Z_ (hb);replace HI0:=Z_ (hi);(try clear hb);(try clear hk);(try clear hi);(try clear ho0);obtain ⟨ci,ar,eo82⟩:=Kd.R_slice a0.out;subst eo82) | ((with_reducible refine gate_callee (f:=39) rfl ?_);refine goesA_ (some 17) rfl rfl Try.func39 (by kernel_rfl) rfl #[.pointer (some ⟨g,0,none⟩),.int .i64 (t181.length : Int)] rfl ?_;(with_reducible refine (spec_l1Next.calls g s0_0 t184 (t181.length : Int) t185 t186 w0 _ ?side1 ?side2 a7.out).mono ?_);(case side1 => repeat (first | (with_reducible first | exact HI0.out | apply IsS117.set_1) | exact HI0.out));(case side2 => repeat (first | (with_reducible first | exact HB.out | refine lS1_ ?_ (IsS117.ge HI0.out)) | exact HB.out));rintro e w83 ⟨rfl,hi,hb,hk⟩;refine ⟨_,rfl,?_⟩;replace a1:=Z_ (Kd.R_mono (Kd.R_keep (IsS117.apart (show IsS117 w0 _ g s0_0 t184 from by repeat (first | (with_reducible first | exact HI0.out | apply IsS117.set_1) | exact HI0.out)) a1.out (by decide)) hk (fun _ h => h.2)) (fun _ h => h.1));replace a0:=Z_ (Kd.R_mono (Kd.R_keep (IsS117.apart (show IsS117 w0 _ g s0_0 t184 from by repeat (first | (with_reducible first | exact HI0.out | apply IsS117.set_1) | exact HI0.out)) a0.out (by decide)) hk (fun _ h => h.2)) (fun _ h => h.1));replace HK:=Z_ (KeepBut.trans (by repeat (first | (with_reducible first | exact HK.out | apply KeepBut.set_) | exact HK.out)) hk (.inl rfl));replace HB:=Z_ (hb);replace HI0:=Z_ (hi);(try clear hb);(try clear hk);(try clear hi)) | ((with_reducible refine gate_callee (f:=39) rfl ?_);refine goesA_ (some 19) rfl rfl Try.func39 (by kernel_rfl) rfl #[.pointer (some ⟨g,0,none⟩),.int .i64 24] rfl ?_;(with_reducible refine (spec_l1Next.calls g s0_0 t186 24 t187 t188 w0 _ ?side1 ?side2 a8.out).mono ?_);(case side1 => repeat (first | (with_reducible first | exact HI0.out | apply IsS117.set_1) | exact HI0.out));(case side2 => repeat (first | (with_reducible first | exact HB.out | refine lS1_ ?_ (IsS117.ge HI0.out)) | exact HB.out));rintro e w84 ⟨rfl,hi,hb,hk⟩;refine ⟨_,rfl,?_⟩;replace a1:=Z_ (Kd.R_mono (Kd.R_keep (IsS117.apart (show IsS117 w0 _ g s0_0 t186 from by repeat (first | (with_reducible first | exact HI0.out | apply IsS117.set_1) | exact HI0.out)) a1.out (by decide)) hk (fun _ h => h.2)) (fun _ h => h.1));replace a0:=Z_ (Kd.R_mono (Kd.R_keep (IsS117.apart (show IsS117 w0 _ g s0_0 t186 from by repeat (first | (with_reducible first | exact HI0.out | apply IsS117.set_1) | exact HI0.out)) a0.out (by decide)) hk (fun _ h => h.2)) (fun _ h => h.1));replace HK:=Z_ (KeepBut.trans (by repeat (first | (with_reducible first | exact HK.out | apply KeepBut.set_) | exact HK.out)) hk (.inl rfl));replace HB:=Z_ (hb);replace HI0:=Z_ (hi);(try clear hb);(try clear hk);(try clear hi)) | ((with_reducible refine gD_ 57 rfl ?_);refine Kd.R_lit (Kd.int .i64) _ 2 ?hg (N:=57) ?hd (xs:=([(-1),10000,1] : List Int)) (inner:=[.int .i64 (-1),.int .i64 10000,.int .i64 1]) (ok:=fun _ => True) (okp:=fun _ => True) ?hr ?hp (fun _ hk => hk) trivial (Below.refl _ _) (Nat.le_refl _) (by simp) ?_;(case hd => rfl);(case hg => rfl);(case hr => first | (go_simp;done) | (go_simp;rfl));(case hp => exact (Reps.one (show Kd.M (Kd.int .i64) _ _ _ (-1) [.int .i64 (-1)] from rfl) (Reps.one (show Kd.M (Kd.int .i64) _ _ _ 10000 [.int .i64 10000] from rfl) (Reps.one (show Kd.M (Kd.int .i64) _ _ _ 1 [.int .i64 1] from rfl) (Reps.none _ _)))));intro v210 w85 ho86 hb hg_ hnew_;clear hg_ hnew_;(first | rw [← ac.out] at ho86 | (simp only [Int.reduceToNat] at ho86;rw [← ac.out] at ho86));replace a0:=Z_ (Kd.R_below a0.out hb);have a6:=Z_ (Kd.R_lower (Kd.R_new' ho86 (Kd.R_lt a1.out)) (keep_size (w:=w) (g:=g) (row:=none) (by repeat (first | (with_reducible first | exact HK.out | apply KeepBut.set_) | exact HK.out))));replace HK:=Z_ (KeepBut.trans (by repeat (first | (with_reducible first | exact HK.out | apply KeepBut.set_) | exact HK.out)) (KeepBut.of_below hb g none) (.inl rfl));replace HB:=Z_ (lP_ (by repeat (first | (with_reducible first | exact HB.out | refine lS1_ ?_ (IsS117.ge HI0.out)) | exact HB.out)) hb);replace HI0:=Z_ (IsS117.below (by repeat (first | (with_reducible first | exact HI0.out | apply IsS117.set_1) | exact HI0.out)) hb);clear hb ho86;obtain ⟨br,bs,eo87⟩:=Kd.R_slice a6.out;subst eo87) | ((with_reducible refine gate_callee (f:=40) rfl ?_);refine goesA_ (some 58) rfl rfl Try.func40 (by kernel_rfl) rfl #[.pointer (some ⟨g,0,none⟩),.slice br y209.length bs] rfl ?_;(with_reducible refine (spec_l1Pick.calls g s0_0 t188 _ _ y209 t212 t213 w0 _ ?side1 ?side2 ?side3 ?side4 ?side5 c3.out).mono ?_);(case side1 => repeat (first | (with_reducible first | exact HI0.out | apply IsS117.set_1) | exact HI0.out));(case side2 => repeat (first | (with_reducible first | exact HB.out | refine lS1_ ?_ (IsS117.ge HI0.out)) | exact HB.out));(case side3 => exact Rc_ a6);(case side4 => exact (Kd.R_reads' a6.out).2.1);(case side5 => exact far_slice (IsS117.own_ne HI0.out a6.out (by decide)));rintro e w88 ⟨rfl,hi,hb,hk⟩;refine ⟨_,rfl,?_⟩;replace a0:=Z_ (Kd.R_mono (Kd.R_keep (IsS117.apart (show IsS117 w0 _ g s0_0 t188 from by repeat (first | (with_reducible first | exact HI0.out | apply IsS117.set_1) | exact HI0.out)) a0.out (by decide)) hk (fun _ h => h.2)) (fun _ h => h.1));replace HK:=Z_ (KeepBut.trans (by repeat (first | (with_reducible first | exact HK.out | apply KeepBut.set_) | exact HK.out)) hk (.inl rfl));replace HB:=Z_ (hb);replace HI0:=Z_ (hi);(try clear hb);(try clear hk);(try clear hi);have p76 : 0 ≤ (t185 : Int):=dA_;have q76 : (t185 : Int) < ((t181.length : Int) : Int):=dA_;obtain ⟨go76,cj,eo76,au,gl76,cl76,HG76⟩:=Kd.R_form a0.out (by omega);(first | cases eo76 | (injection eo76 with ea_ en_ ec_;(first | subst ea_ | (injection ea_ with ea_;subst ea_));subst ec_;clear en_));have bt:=Z_ au;have GG76:=Z_ HG76;clear au gl76 HG76;obtain ⟨ce76,hcl76,hM76,hcc76,hfr76⟩:=Kd.R_elem a0.out z36 (t185 : Int) p76 q76;obtain rfl:=k36_openM hM76;have hx76_0 : w88.cell? ⟨go76,(t185 : Int).toNat * 4,none⟩ = some (.int .i64 ((rd_T36 t181 t185).f0)):=hcc76 0 _ rfl;have hx76_1 : w88.cell? ⟨go76,(t185 : Int).toNat * 4 + 1,none⟩ = some (.int .i64 ((rd_T36 t181 t185).f1)):=hcc76 1 _ rfl;have hx76_2 : w88.cell? ⟨go76,(t185 : Int).toNat * 4 + 2,none⟩ = some (.int .i64 ((rd_T36 t181 t185).f2)):=hcc76 2 _ rfl;have hx76_3 : w88.cell? ⟨go76,(t185 : Int).toNat * 4 + 3,none⟩ = some (.int .i64 ((rd_T36 t181 t185).f3)):=hcc76 3 _ rfl;have hf76_0 : w88.frozen? ⟨go76,(t185 : Int).toNat * 4,none⟩ = false:=hfr76 0;have hf76_1 : w88.frozen? ⟨go76,(t185 : Int).toNat * 4 + 1,none⟩ = false:=hfr76 1;have hf76_2 : w88.frozen? ⟨go76,(t185 : Int).toNat * 4 + 2,none⟩ = false:=hfr76 2;have hf76_3 : w88.frozen? ⟨go76,(t185 : Int).toNat * 4 + 3,none⟩ = false:=hfr76 3;clear hcl76 hcc76 hfr76 hM76;replace p76:=eq_true p76;replace q76:=eq_true q76;have HX89:=Z_ (show Kd.R k36 36 w88 w.heap.size (fun _ => True) (.slice (some ⟨go76,0,none⟩) t181.length ar) t181 from a0.out);obtain ⟨ce89,hcl89,hM89,hcc89,hfr89⟩:=Kd.R_elem HX89.out z36 (t185 : Int) (dA_) (by have h_ : (t185 : Int) < ((t181.length : Int) : Int):=dA_;first | exact h_ | (have e_:=(Kd.R_reads' a0.out).1;omega) | simpa using h_);obtain rfl:=k36_openM hM89;have HP89:=Kd.R_seg HX89.out (t185 : Int) (dA_) (by have h_ : (t185 : Int) < ((t181.length : Int) : Int):=dA_;first | exact h_ | (have e_:=(Kd.R_reads' a0.out).1;omega) | simpa using h_) (seg:=[.int .i64 t212]) (j:=3) hcl89 hcc89 (show 4 ≤ 4 from by decide) (x':=(⟨(rd_T36 t181 t185).f0,(rd_T36 t181 t185).f1,(rd_T36 t181 t185).f2,t212⟩ : S36)) (k36_mkM _ _ _ (⟨(rd_T36 t181 t185).f0,(rd_T36 t181 t185).f1,(rd_T36 t181 t185).f2,t212⟩ : S36) ) (fun _ hk => hk);have hx89_3:=hcc89 3 _ rfl;(try simp only [show (k36).sz = 4 from rfl,Nat.mul_one,Nat.add_zero] at hx89_3);have hf89_3:=hfr89 3;(try simp only [show (k36).sz = 4 from rfl,Nat.mul_one,Nat.add_zero] at hf89_3);clear hcl89 hcc89 hfr89 hM89) | ((with_reducible refine gate_store (t:=2) (p:=60) rfl ?_);refine store_event (t:=2) (p:=60) (v:=?vo_w90) (w1:=(w88.setCell ⟨go76,(t185 : Int).toNat * 4 + 3,none⟩ (.int .i64 t212))) ?hg ?ho ?hn ?hr ?_;(case ho => rfl);(case hg => rfl);(case hn => rfl);(case hr => first | (go_simp;done) | (go_simp;rfl));intro w90 hw;have hg : w88.grownBy w90 (some go76):=(by rw [hw];exact HP89.2);have hp_ : Kd.R k36 36 w90 w.heap.size (fun _ => True) (.slice (some ⟨go76,0,none⟩) t181.length ar) y214:=(by rw [hw,ay.out];exact HP89.1);clear HP89;replace HI0:=Z_ (IsS117.grown (by repeat (first | (with_reducible first | exact HI0.out | apply IsS117.set_1) | exact HI0.out)) hg (IsS117.own_ne HI0.out a0.out (by decide)));replace HB:=Z_ ((by rw [hw];exact lS1_ (HB.out) (Nat.le_trans HL.out bt.out) : Below w0.heap.size w0 w90));replace HK:=Z_ (KeepBut.trans (by repeat (first | (with_reducible first | exact HK.out | apply KeepBut.set_) | exact HK.out)) (KeepBut.of_grown hg g) (Kd.R_base2 a0.out));replace a0:=Z_ (hp_);clear hg hw hp_))
  go_ret
  exact ⟨_,Er_,Rk_ a0,by repeat (first | (with_reducible first | exact HI0.out | apply IsS117.alloc | apply IsS117.drewN | apply IsS117.drew | apply IsS117.set_1) | exact HI0.out),by repeat (first | (with_reducible first | exact HB.out | apply lA1_ | apply lN_ | apply lD_ | refine lS1_ ?_ (IsS117.ge HI0.out)) | exact HB.out),by repeat (first | (with_reducible first | exact HK.out | apply KeepBut.set_ | apply kN_ | apply kD_ | apply kA_) | exact HK.out)⟩
 replace H:=iE_ H
 obtain ⟨c91b0,c91b1,H⟩ | ⟨c91b0,c91b1,H⟩:=H
 rotate_left
 focus
  replace H:=iE_ H
  obtain ⟨c104b0,c104b1,H⟩ | ⟨c104b0,c104b1,H⟩:=H
  ·replace H:=iN_ H
   obtain ⟨c105,H⟩:=H
   have c105b0:=eq_true c105
   have c105b1 : decide (401 ≤ 8796093022208) = true:=decide_eq_true c105
   clear c105
   obtain ⟨y219,hy219⟩ : ∃ y_ : List (S36),y_ = (List.replicate 401 z36):=⟨_,rfl⟩
   replace H : (some (y219,t188)) = some (r1,r2):=by first | (rw [hy219];with_reducible exact H) | (have H2_:=(Option.bind_some _ _).symm.trans H;rw [hy219];with_reducible exact H2_) | (have H2_:=(Option.bind_some _ _).symm.trans H;with_reducible exact H2_) | with_reducible exact H | (rw [hy219];exact H) | exact H
   have ad:=Z_ hy219
   clear hy219
   simp only [Option.some.injEq,Prod.mk.injEq] at H
   obtain ⟨rfl,rfl⟩:=H
   go_enter Try.func36,Try.ntmps36
   go_wp2_with (first | ((with_reducible refine gD_ 7 rfl ?_);refine Kd.R_lit (Kd.int .i64) _ 2 ?hg (N:=7) ?hd (xs:=([6,14,25,40,1] : List Int)) (inner:=[.int .i64 6,.int .i64 14,.int .i64 25,.int .i64 40,.int .i64 1]) (ok:=fun _ => True) (okp:=fun _ => True) ?hr ?hp (fun _ hk => hk) trivial (Below.refl _ _) (Nat.le_refl _) (by simp) ?_;(case hd => rfl);(case hg => rfl);(case hr => first | (go_simp;done) | (go_simp;rfl));(case hp => exact (Reps.one (show Kd.M (Kd.int .i64) _ _ _ 6 [.int .i64 6] from rfl) (Reps.one (show Kd.M (Kd.int .i64) _ _ _ 14 [.int .i64 14] from rfl) (Reps.one (show Kd.M (Kd.int .i64) _ _ _ 25 [.int .i64 25] from rfl) (Reps.one (show Kd.M (Kd.int .i64) _ _ _ 40 [.int .i64 40] from rfl) (Reps.one (show Kd.M (Kd.int .i64) _ _ _ 1 [.int .i64 1] from rfl) (Reps.none _ _)))))));intro v177 w106 ho107 hb hg_ hnew_;clear hg_ hnew_;(first | rw [← a2.out] at ho107 | (simp only [Int.reduceToNat] at ho107;rw [← a2.out] at ho107));have a1:=Z_ (Kd.R_lower ho107 (keep_size (w:=w) (g:=g) (row:=none) (by repeat (first | (with_reducible first | exact HK.out | apply KeepBut.set_ | apply kN_ | apply kD_ | apply kA_) | exact HK.out))));replace HK:=Z_ (KeepBut.trans (by repeat (first | (with_reducible first | exact HK.out | apply KeepBut.set_ | apply kN_ | apply kD_ | apply kA_) | exact HK.out)) (KeepBut.of_below hb g none) (.inl rfl));replace HB:=Z_ (lP_ (by repeat (first | (with_reducible first | exact HB.out | apply lA1_ | apply lN_ | apply lD_ | refine lS1_ ?_ (IsS117.ge HI0.out)) | exact HB.out)) hb);replace HI0:=Z_ (IsS117.below (by repeat (first | (with_reducible first | exact HI0.out | apply IsS117.alloc | apply IsS117.drewN | apply IsS117.drew | apply IsS117.set_1) | exact HI0.out)) hb);clear hb ho107;obtain ⟨b3,b4,eo108⟩:=Kd.R_slice a1.out;subst eo108) | ((with_reducible refine gate_callee (f:=40) rfl ?_);refine goesA_ (some 8) rfl rfl Try.func40 (by kernel_rfl) rfl #[.pointer (some ⟨g,0,none⟩),.slice b3 y176.length b4] rfl ?_;(with_reducible refine (spec_l1Pick.calls g s0_0 s0_1 _ _ y176 t179 t180 w0 _ ?side1 ?side2 ?side3 ?side4 ?side5 A2.out).mono ?_);(case side1 => repeat (first | (with_reducible first | exact HI0.out | apply IsS117.set_1) | exact HI0.out));(case side2 => repeat (first | (with_reducible first | exact HB.out | refine lS1_ ?_ (IsS117.ge HI0.out)) | exact HB.out));(case side3 => exact Rc_ a1);(case side4 => exact (Kd.R_reads' a1.out).2.1);(case side5 => exact far_slice (IsS117.own_ne HI0.out a1.out (by decide)));rintro e w109 ⟨rfl,hi,hb,hk⟩;refine ⟨_,rfl,?_⟩;replace HK:=Z_ (KeepBut.trans (by repeat (first | (with_reducible first | exact HK.out | apply KeepBut.set_) | exact HK.out)) hk (.inl rfl));replace HB:=Z_ (hb);replace HI0:=Z_ (hi);(try clear hb);(try clear hk);(try clear hi)) | ((with_reducible refine gate_callee (f:=75) rfl ?_);refine goesA_ (some 9) rfl rfl Try.func75 (by kernel_rfl) rfl #[.pointer (some ⟨g,0,none⟩),.int .i64 t179] rfl ?_;(with_reducible refine (spec_l5Grow.calls k g s0_0 t180 t179 t181 t184 w0 _ ?side1 ?side2 A3.out).mono ?_);(case side1 => repeat (first | (with_reducible first | exact HI0.out | apply IsS117.set_1) | exact HI0.out));(case side2 => repeat (first | (with_reducible first | exact HB.out | refine lS1_ ?_ (IsS117.ge HI0.out)) | exact HB.out));rintro e w110 ⟨v182,rfl,ho0,hi,hb,hk⟩;refine ⟨_,rfl,?_⟩;have a0:=Z_ (Kd.R_lower ho0 (keep_size (w:=w) (g:=g) (row:=none) (by repeat (first | (with_reducible first | exact HK.out | apply KeepBut.set_) | exact HK.out))));replace HK:=Z_ (KeepBut.trans (by repeat (first | (with_reducible first | exact HK.out | apply KeepBut.set_) | exact HK.out)) hk (.inl rfl));replace HB:=Z_ (hb);replace HI0:=Z_ (hi);(try clear hb);(try clear hk);(try clear hi);(try clear ho0);obtain ⟨c6,c7,eo111⟩:=Kd.R_slice a0.out;subst eo111) | ((with_reducible refine gate_callee (f:=39) rfl ?_);refine goesA_ (some 17) rfl rfl Try.func39 (by kernel_rfl) rfl #[.pointer (some ⟨g,0,none⟩),.int .i64 (t181.length : Int)] rfl ?_;(with_reducible refine (spec_l1Next.calls g s0_0 t184 (t181.length : Int) t185 t186 w0 _ ?side1 ?side2 a7.out).mono ?_);(case side1 => repeat (first | (with_reducible first | exact HI0.out | apply IsS117.set_1) | exact HI0.out));(case side2 => repeat (first | (with_reducible first | exact HB.out | refine lS1_ ?_ (IsS117.ge HI0.out)) | exact HB.out));rintro e w112 ⟨rfl,hi,hb,hk⟩;refine ⟨_,rfl,?_⟩;replace a0:=Z_ (Kd.R_mono (Kd.R_keep (IsS117.apart (show IsS117 w0 _ g s0_0 t184 from by repeat (first | (with_reducible first | exact HI0.out | apply IsS117.set_1) | exact HI0.out)) a0.out (by decide)) hk (fun _ h => h.2)) (fun _ h => h.1));replace HK:=Z_ (KeepBut.trans (by repeat (first | (with_reducible first | exact HK.out | apply KeepBut.set_) | exact HK.out)) hk (.inl rfl));replace HB:=Z_ (hb);replace HI0:=Z_ (hi);(try clear hb);(try clear hk);(try clear hi)) | ((with_reducible refine gate_callee (f:=39) rfl ?_);refine goesA_ (some 19) rfl rfl Try.func39 (by kernel_rfl) rfl #[.pointer (some ⟨g,0,none⟩),.int .i64 24] rfl ?_;(with_reducible refine (spec_l1Next.calls g s0_0 t186 24 t187 t188 w0 _ ?side1 ?side2 a8.out).mono ?_);(case side1 => repeat (first | (with_reducible first | exact HI0.out | apply IsS117.set_1) | exact HI0.out));(case side2 => repeat (first | (with_reducible first | exact HB.out | refine lS1_ ?_ (IsS117.ge HI0.out)) | exact HB.out));rintro e w113 ⟨rfl,hi,hb,hk⟩;refine ⟨_,rfl,?_⟩;replace a0:=Z_ (Kd.R_mono (Kd.R_keep (IsS117.apart (show IsS117 w0 _ g s0_0 t186 from by repeat (first | (with_reducible first | exact HI0.out | apply IsS117.set_1) | exact HI0.out)) a0.out (by decide)) hk (fun _ h => h.2)) (fun _ h => h.1));replace HK:=Z_ (KeepBut.trans (by repeat (first | (with_reducible first | exact HK.out | apply KeepBut.set_) | exact HK.out)) hk (.inl rfl));replace HB:=Z_ (hb);replace HI0:=Z_ (hi);(try clear hb);(try clear hk);(try clear hi)) | ((with_reducible refine gD_ 72 rfl ?_);refine Kd.R_make k36 _ 36 rfl (N:=72) rfl 24 _ _ rfl 401 rfl rfl Try.underlying24 (.agg #[(.int .i64 0),(.int .i64 0),(.int .i64 0),(.int .i64 0)]) 32 info36 rfl (by decide) (by omega) z36 (ok:=fun _ => True) (okp:=fun _ => True) (k36_mkM _ _ _ z36 ) (fun _ hk => hk) trivial (by omega) (by omega) (Below.refl _ _) (Nat.le_refl _) ?_;intro v220 w114 ho115 hb hg_ hnew_;clear hg_ hnew_;(first | rw [← ad.out] at ho115 | (simp only [Int.reduceToNat] at ho115;rw [← ad.out] at ho115));have b5:=Z_ (Kd.R_lower (Kd.R_new' ho115 (Kd.R_lt a0.out)) (keep_size (w:=w) (g:=g) (row:=none) (by repeat (first | (with_reducible first | exact HK.out | apply KeepBut.set_) | exact HK.out))));replace HK:=Z_ (KeepBut.trans (by repeat (first | (with_reducible first | exact HK.out | apply KeepBut.set_) | exact HK.out)) (KeepBut.of_below hb g none) (.inl rfl));replace HB:=Z_ (lP_ (by repeat (first | (with_reducible first | exact HB.out | refine lS1_ ?_ (IsS117.ge HI0.out)) | exact HB.out)) hb);replace HI0:=Z_ (IsS117.below (by repeat (first | (with_reducible first | exact HI0.out | apply IsS117.set_1) | exact HI0.out)) hb);clear hb ho115))
   go_ret
   exact ⟨_,Er_,by (with_reducible repeat first | apply rA_ | apply rN_ | apply rD_);exact Kd.R_mono b5.out (fun _ hk => trivial),by repeat (first | (with_reducible first | exact HI0.out | apply IsS117.alloc | apply IsS117.drewN | apply IsS117.drew | apply IsS117.set_1) | exact HI0.out),by repeat (first | (with_reducible first | exact HB.out | apply lA1_ | apply lN_ | apply lD_ | refine lS1_ ?_ (IsS117.ge HI0.out)) | exact HB.out),by repeat (first | (with_reducible first | exact HK.out | apply KeepBut.set_ | apply kN_ | apply kD_ | apply kA_) | exact HK.out)⟩
 rotate_right
 ·replace H:=iM_ H
  obtain ⟨c92b0,H⟩:=H
  replace H:=iM_ H
  obtain ⟨c93b0,H⟩:=H
  replace H:=iN_ H
  obtain ⟨c94,H⟩:=H
  have az:=Z_ c94
  clear c94
  obtain ⟨y216,hy216⟩ : ∃ y_ : List (S36),y_ = (t181 ++ [(⟨(rd_T36 t181 t185).f0,(rd_T36 t181 t185).f1,(rd_T36 t181 t185).f2,(rd_T36 t181 t185).f3⟩ : S36)]):=⟨_,rfl⟩
  replace H : (some (y216,t188)) = some (r1,r2):=by first | (rw [hy216];with_reducible exact H) | (have H2_:=(Option.bind_some _ _).symm.trans H;rw [hy216];with_reducible exact H2_) | (have H2_:=(Option.bind_some _ _).symm.trans H;with_reducible exact H2_) | with_reducible exact H | (rw [hy216];exact H) | exact H
  have b0:=Z_ hy216
  clear hy216
  simp only [Option.some.injEq,Prod.mk.injEq] at H
  obtain ⟨rfl,rfl⟩:=H
  go_enter Try.func36,Try.ntmps36
  go_wp2_with (first | ((with_reducible refine gD_ 7 rfl ?_);refine Kd.R_lit (Kd.int .i64) _ 2 ?hg (N:=7) ?hd (xs:=([6,14,25,40,1] : List Int)) (inner:=[.int .i64 6,.int .i64 14,.int .i64 25,.int .i64 40,.int .i64 1]) (ok:=fun _ => True) (okp:=fun _ => True) ?hr ?hp (fun _ hk => hk) trivial (Below.refl _ _) (Nat.le_refl _) (by simp) ?_;(case hd => rfl);(case hg => rfl);(case hr => first | (go_simp;done) | (go_simp;rfl));(case hp => exact (Reps.one (show Kd.M (Kd.int .i64) _ _ _ 6 [.int .i64 6] from rfl) (Reps.one (show Kd.M (Kd.int .i64) _ _ _ 14 [.int .i64 14] from rfl) (Reps.one (show Kd.M (Kd.int .i64) _ _ _ 25 [.int .i64 25] from rfl) (Reps.one (show Kd.M (Kd.int .i64) _ _ _ 40 [.int .i64 40] from rfl) (Reps.one (show Kd.M (Kd.int .i64) _ _ _ 1 [.int .i64 1] from rfl) (Reps.none _ _)))))));intro v177 w95 ho96 hb hg_ hnew_;clear hg_ hnew_;(first | rw [← a2.out] at ho96 | (simp only [Int.reduceToNat] at ho96;rw [← a2.out] at ho96));have a1:=Z_ (Kd.R_lower ho96 (keep_size (w:=w) (g:=g) (row:=none) (by repeat (first | (with_reducible first | exact HK.out | apply KeepBut.set_ | apply kN_ | apply kD_ | apply kA_) | exact HK.out))));replace HK:=Z_ (KeepBut.trans (by repeat (first | (with_reducible first | exact HK.out | apply KeepBut.set_ | apply kN_ | apply kD_ | apply kA_) | exact HK.out)) (KeepBut.of_below hb g none) (.inl rfl));replace HB:=Z_ (lP_ (by repeat (first | (with_reducible first | exact HB.out | apply lA1_ | apply lN_ | apply lD_ | refine lS1_ ?_ (IsS117.ge HI0.out)) | exact HB.out)) hb);replace HI0:=Z_ (IsS117.below (by repeat (first | (with_reducible first | exact HI0.out | apply IsS117.alloc | apply IsS117.drewN | apply IsS117.drew | apply IsS117.set_1) | exact HI0.out)) hb);clear hb ho96;obtain ⟨bu,bv,eo97⟩:=Kd.R_slice a1.out;subst eo97) | ((with_reducible refine gate_callee (f:=40) rfl ?_);refine goesA_ (some 8) rfl rfl Try.func40 (by kernel_rfl) rfl #[.pointer (some ⟨g,0,none⟩),.slice bu y176.length bv] rfl ?_;(with_reducible refine (spec_l1Pick.calls g s0_0 s0_1 _ _ y176 t179 t180 w0 _ ?side1 ?side2 ?side3 ?side4 ?side5 A2.out).mono ?_);(case side1 => repeat (first | (with_reducible first | exact HI0.out | apply IsS117.set_1) | exact HI0.out));(case side2 => repeat (first | (with_reducible first | exact HB.out | refine lS1_ ?_ (IsS117.ge HI0.out)) | exact HB.out));(case side3 => exact Rc_ a1);(case side4 => exact (Kd.R_reads' a1.out).2.1);(case side5 => exact far_slice (IsS117.own_ne HI0.out a1.out (by decide)));rintro e w98 ⟨rfl,hi,hb,hk⟩;refine ⟨_,rfl,?_⟩;replace HK:=Z_ (KeepBut.trans (by repeat (first | (with_reducible first | exact HK.out | apply KeepBut.set_) | exact HK.out)) hk (.inl rfl));replace HB:=Z_ (hb);replace HI0:=Z_ (hi);(try clear hb);(try clear hk);(try clear hi)) | ((with_reducible refine gate_callee (f:=75) rfl ?_);refine goesA_ (some 9) rfl rfl Try.func75 (by kernel_rfl) rfl #[.pointer (some ⟨g,0,none⟩),.int .i64 t179] rfl ?_;(with_reducible refine (spec_l5Grow.calls k g s0_0 t180 t179 t181 t184 w0 _ ?side1 ?side2 A3.out).mono ?_);(case side1 => repeat (first | (with_reducible first | exact HI0.out | apply IsS117.set_1) | exact HI0.out));(case side2 => repeat (first | (with_reducible first | exact HB.out | refine lS1_ ?_ (IsS117.ge HI0.out)) | exact HB.out));rintro e w99 ⟨v182,rfl,ho0,hi,hb,hk⟩;refine ⟨_,rfl,?_⟩;have a0:=Z_ (Kd.R_lower ho0 (keep_size (w:=w) (g:=g) (row:=none) (by repeat (first | (with_reducible first | exact HK.out | apply KeepBut.set_) | exact HK.out))));replace HK:=Z_ (KeepBut.trans (by repeat (first | (with_reducible first | exact HK.out | apply KeepBut.set_) | exact HK.out)) hk (.inl rfl));replace HB:=Z_ (hb);replace HI0:=Z_ (hi);(try clear hb);(try clear hk);(try clear hi);(try clear ho0);obtain ⟨c5,b1,eo100⟩:=Kd.R_slice a0.out;subst eo100) | ((with_reducible refine gate_callee (f:=39) rfl ?_);refine goesA_ (some 17) rfl rfl Try.func39 (by kernel_rfl) rfl #[.pointer (some ⟨g,0,none⟩),.int .i64 (t181.length : Int)] rfl ?_;(with_reducible refine (spec_l1Next.calls g s0_0 t184 (t181.length : Int) t185 t186 w0 _ ?side1 ?side2 a7.out).mono ?_);(case side1 => repeat (first | (with_reducible first | exact HI0.out | apply IsS117.set_1) | exact HI0.out));(case side2 => repeat (first | (with_reducible first | exact HB.out | refine lS1_ ?_ (IsS117.ge HI0.out)) | exact HB.out));rintro e w101 ⟨rfl,hi,hb,hk⟩;refine ⟨_,rfl,?_⟩;replace a0:=Z_ (Kd.R_mono (Kd.R_keep (IsS117.apart (show IsS117 w0 _ g s0_0 t184 from by repeat (first | (with_reducible first | exact HI0.out | apply IsS117.set_1) | exact HI0.out)) a0.out (by decide)) hk (fun _ h => h.2)) (fun _ h => h.1));replace HK:=Z_ (KeepBut.trans (by repeat (first | (with_reducible first | exact HK.out | apply KeepBut.set_) | exact HK.out)) hk (.inl rfl));replace HB:=Z_ (hb);replace HI0:=Z_ (hi);(try clear hb);(try clear hk);(try clear hi)) | ((with_reducible refine gate_callee (f:=39) rfl ?_);refine goesA_ (some 19) rfl rfl Try.func39 (by kernel_rfl) rfl #[.pointer (some ⟨g,0,none⟩),.int .i64 24] rfl ?_;(with_reducible refine (spec_l1Next.calls g s0_0 t186 24 t187 t188 w0 _ ?side1 ?side2 a8.out).mono ?_);(case side1 => repeat (first | (with_reducible first | exact HI0.out | apply IsS117.set_1) | exact HI0.out));(case side2 => repeat (first | (with_reducible first | exact HB.out | refine lS1_ ?_ (IsS117.ge HI0.out)) | exact HB.out));rintro e w102 ⟨rfl,hi,hb,hk⟩;refine ⟨_,rfl,?_⟩;replace a0:=Z_ (Kd.R_mono (Kd.R_keep (IsS117.apart (show IsS117 w0 _ g s0_0 t186 from by repeat (first | (with_reducible first | exact HI0.out | apply IsS117.set_1) | exact HI0.out)) a0.out (by decide)) hk (fun _ h => h.2)) (fun _ h => h.1));replace HK:=Z_ (KeepBut.trans (by repeat (first | (with_reducible first | exact HK.out | apply KeepBut.set_) | exact HK.out)) hk (.inl rfl));replace HB:=Z_ (hb);replace HI0:=Z_ (hi);(try clear hb);(try clear hk);(try clear hi);have p215 : 0 ≤ (t185 : Int):=dA_;have q215 : t185 < (t181.length : Int):=dA_;obtain ⟨ad215,e215,hx215_0,hx215_1,hx215_2,hx215_3⟩:=at_T36 (Kd.R_reads' a0.out).2.2 t185 p215 q215;cases e215;replace p215:=eq_true p215;replace q215:=eq_true q215) | ((with_reducible refine gate_builtin (b:=.append) (xs:=#[.tmp 63,.tmp 68]) rfl ?_);at_builtin;refine Kd.R_append k36 w.heap.size rfl (.tmp 63) (.tmp 68) 24 36 (.agg #[(.int .i64 0),(.int .i64 0),(.int .i64 0),(.int .i64 0)]) 32 rfl Try.underlying24 info36 rfl (by decide) (by omega) (.slice (some ad215) t181.length b1) t181 (⟨(rd_T36 t181 t185).f0,(rd_T36 t181 t185).f1,(rd_T36 t181 t185).f2,(rd_T36 t181 t185).f3⟩ : S36) [.int .i64 ((rd_T36 t181 t185).f0),.int .i64 ((rd_T36 t181 t185).f1),.int .i64 ((rd_T36 t181 t185).f2),.int .i64 ((rd_T36 t181 t185).f3)] (fun _ => True) (fun _ => False) rfl rfl ?aP (fun _ hk => hk.elim) ?aF ?aO (Below.refl _ _) ?aS ?aL ?_;(case aP => exact k36_mkM _ _ _ (⟨(rd_T36 t181 t185).f0,(rd_T36 t181 t185).f1,(rd_T36 t181 t185).f2,(rd_T36 t181 t185).f3⟩ : S36));(case aF => exact (fun _ _ => trivial));(case aO => exact a0.out);(case aS => exact (keep_size (w:=w) (g:=g) (row:=none) (by repeat (first | (with_reducible first | exact HK.out | apply KeepBut.set_) | exact HK.out))));(case aL => have:=az.out;omega);intro v217 w103 ho hb hg hat;rw [← b0.out] at ho;replace HB:=Z_ (below_weaken (by repeat (first | (with_reducible first | exact HB.out | refine lS1_ ?_ (IsS117.ge HI0.out)) | exact HB.out)) HL.out hb);replace HI0:=Z_ (IsS117.grown (by repeat (first | (with_reducible first | exact HI0.out | apply IsS117.set_1) | exact HI0.out)) hg (IsS117.own_ne HI0.out a0.out (by decide)));replace HK:=Z_ (KeepBut.trans (by repeat (first | (with_reducible first | exact HK.out | apply KeepBut.set_) | exact HK.out)) (KeepBut.of_grown hg g) (Kd.R_base2 a0.out));have b2:=Z_ (ho);clear a0 ho hb hg hat))
  go_ret
  exact ⟨_,Er_,Rk_ b2,by repeat (first | (with_reducible first | exact HI0.out | apply IsS117.alloc | apply IsS117.drewN | apply IsS117.drew | apply IsS117.set_1) | exact HI0.out),by repeat (first | (with_reducible first | exact HB.out | apply lA1_ | apply lN_ | apply lD_ | refine lS1_ ?_ (IsS117.ge HI0.out)) | exact HB.out),by repeat (first | (with_reducible first | exact HK.out | apply KeepBut.set_ | apply kN_ | apply kD_ | apply kA_) | exact HK.out)⟩
 all_goals
  simp only [Option.some.injEq,Prod.mk.injEq] at H
  obtain ⟨rfl,rfl⟩:=H
  go_enter Try.func36,Try.ntmps36
  go_wp2_with (first | ((with_reducible refine gD_ 7 rfl ?_);refine Kd.R_lit (Kd.int .i64) _ 2 ?hg (N:=7) ?hd (xs:=([6,14,25,40,1] : List Int)) (inner:=[.int .i64 6,.int .i64 14,.int .i64 25,.int .i64 40,.int .i64 1]) (ok:=fun _ => True) (okp:=fun _ => True) ?hr ?hp (fun _ hk => hk) trivial (Below.refl _ _) (Nat.le_refl _) (by simp) ?_;(case hd => rfl);(case hg => rfl);(case hr => first | (go_simp;done) | (go_simp;rfl));(case hp => exact (Reps.one (show Kd.M (Kd.int .i64) _ _ _ 6 [.int .i64 6] from rfl) (Reps.one (show Kd.M (Kd.int .i64) _ _ _ 14 [.int .i64 14] from rfl) (Reps.one (show Kd.M (Kd.int .i64) _ _ _ 25 [.int .i64 25] from rfl) (Reps.one (show Kd.M (Kd.int .i64) _ _ _ 40 [.int .i64 40] from rfl) (Reps.one (show Kd.M (Kd.int .i64) _ _ _ 1 [.int .i64 1] from rfl) (Reps.none _ _)))))));intro v177 w116 ho117 hb hg_ hnew_;clear hg_ hnew_;(first | rw [← a2.out] at ho117 | (simp only [Int.reduceToNat] at ho117;rw [← a2.out] at ho117));have a1:=Z_ (Kd.R_lower ho117 (keep_size (w:=w) (g:=g) (row:=none) (by repeat (first | (with_reducible first | exact HK.out | apply KeepBut.set_ | apply kN_ | apply kD_ | apply kA_) | exact HK.out))));replace HK:=Z_ (KeepBut.trans (by repeat (first | (with_reducible first | exact HK.out | apply KeepBut.set_ | apply kN_ | apply kD_ | apply kA_) | exact HK.out)) (KeepBut.of_below hb g none) (.inl rfl));replace HB:=Z_ (lP_ (by repeat (first | (with_reducible first | exact HB.out | apply lA1_ | apply lN_ | apply lD_ | refine lS1_ ?_ (IsS117.ge HI0.out)) | exact HB.out)) hb);replace HI0:=Z_ (IsS117.below (by repeat (first | (with_reducible first | exact HI0.out | apply IsS117.alloc | apply IsS117.drewN | apply IsS117.drew | apply IsS117.set_1) | exact HI0.out)) hb);clear hb ho117;obtain ⟨b6,b7,eo118⟩:=Kd.R_slice a1.out;subst eo118) | ((with_reducible refine gate_callee (f:=40) rfl ?_);refine goesA_ (some 8) rfl rfl Try.func40 (by kernel_rfl) rfl #[.pointer (some ⟨g,0,none⟩),.slice b6 y176.length b7] rfl ?_;(with_reducible refine (spec_l1Pick.calls g s0_0 s0_1 _ _ y176 t179 t180 w0 _ ?side1 ?side2 ?side3 ?side4 ?side5 A2.out).mono ?_);(case side1 => repeat (first | (with_reducible first | exact HI0.out | apply IsS117.set_1) | exact HI0.out));(case side2 => repeat (first | (with_reducible first | exact HB.out | refine lS1_ ?_ (IsS117.ge HI0.out)) | exact HB.out));(case side3 => exact Rc_ a1);(case side4 => exact (Kd.R_reads' a1.out).2.1);(case side5 => exact far_slice (IsS117.own_ne HI0.out a1.out (by decide)));rintro e w119 ⟨rfl,hi,hb,hk⟩;refine ⟨_,rfl,?_⟩;replace HK:=Z_ (KeepBut.trans (by repeat (first | (with_reducible first | exact HK.out | apply KeepBut.set_) | exact HK.out)) hk (.inl rfl));replace HB:=Z_ (hb);replace HI0:=Z_ (hi);(try clear hb);(try clear hk);(try clear hi)) | ((with_reducible refine gate_callee (f:=75) rfl ?_);refine goesA_ (some 9) rfl rfl Try.func75 (by kernel_rfl) rfl #[.pointer (some ⟨g,0,none⟩),.int .i64 t179] rfl ?_;(with_reducible refine (spec_l5Grow.calls k g s0_0 t180 t179 t181 t184 w0 _ ?side1 ?side2 A3.out).mono ?_);(case side1 => repeat (first | (with_reducible first | exact HI0.out | apply IsS117.set_1) | exact HI0.out));(case side2 => repeat (first | (with_reducible first | exact HB.out | refine lS1_ ?_ (IsS117.ge HI0.out)) | exact HB.out));rintro e w120 ⟨v182,rfl,ho0,hi,hb,hk⟩;refine ⟨_,rfl,?_⟩;have a0:=Z_ (Kd.R_lower ho0 (keep_size (w:=w) (g:=g) (row:=none) (by repeat (first | (with_reducible first | exact HK.out | apply KeepBut.set_) | exact HK.out))));replace HK:=Z_ (KeepBut.trans (by repeat (first | (with_reducible first | exact HK.out | apply KeepBut.set_) | exact HK.out)) hk (.inl rfl));replace HB:=Z_ (hb);replace HI0:=Z_ (hi);(try clear hb);(try clear hk);(try clear hi);(try clear ho0);obtain ⟨c8,c9,eo121⟩:=Kd.R_slice a0.out;subst eo121) | ((with_reducible refine gate_callee (f:=39) rfl ?_);refine goesA_ (some 17) rfl rfl Try.func39 (by kernel_rfl) rfl #[.pointer (some ⟨g,0,none⟩),.int .i64 (t181.length : Int)] rfl ?_;(with_reducible refine (spec_l1Next.calls g s0_0 t184 (t181.length : Int) t185 t186 w0 _ ?side1 ?side2 a7.out).mono ?_);(case side1 => repeat (first | (with_reducible first | exact HI0.out | apply IsS117.set_1) | exact HI0.out));(case side2 => repeat (first | (with_reducible first | exact HB.out | refine lS1_ ?_ (IsS117.ge HI0.out)) | exact HB.out));rintro e w122 ⟨rfl,hi,hb,hk⟩;refine ⟨_,rfl,?_⟩;replace a0:=Z_ (Kd.R_mono (Kd.R_keep (IsS117.apart (show IsS117 w0 _ g s0_0 t184 from by repeat (first | (with_reducible first | exact HI0.out | apply IsS117.set_1) | exact HI0.out)) a0.out (by decide)) hk (fun _ h => h.2)) (fun _ h => h.1));replace HK:=Z_ (KeepBut.trans (by repeat (first | (with_reducible first | exact HK.out | apply KeepBut.set_) | exact HK.out)) hk (.inl rfl));replace HB:=Z_ (hb);replace HI0:=Z_ (hi);(try clear hb);(try clear hk);(try clear hi)) | ((with_reducible refine gate_callee (f:=39) rfl ?_);refine goesA_ (some 19) rfl rfl Try.func39 (by kernel_rfl) rfl #[.pointer (some ⟨g,0,none⟩),.int .i64 24] rfl ?_;(with_reducible refine (spec_l1Next.calls g s0_0 t186 24 t187 t188 w0 _ ?side1 ?side2 a8.out).mono ?_);(case side1 => repeat (first | (with_reducible first | exact HI0.out | apply IsS117.set_1) | exact HI0.out));(case side2 => repeat (first | (with_reducible first | exact HB.out | refine lS1_ ?_ (IsS117.ge HI0.out)) | exact HB.out));rintro e w123 ⟨rfl,hi,hb,hk⟩;refine ⟨_,rfl,?_⟩;replace a0:=Z_ (Kd.R_mono (Kd.R_keep (IsS117.apart (show IsS117 w0 _ g s0_0 t186 from by repeat (first | (with_reducible first | exact HI0.out | apply IsS117.set_1) | exact HI0.out)) a0.out (by decide)) hk (fun _ h => h.2)) (fun _ h => h.1));replace HK:=Z_ (KeepBut.trans (by repeat (first | (with_reducible first | exact HK.out | apply KeepBut.set_) | exact HK.out)) hk (.inl rfl));replace HB:=Z_ (hb);replace HI0:=Z_ (hi);(try clear hb);(try clear hk);(try clear hi)))
  go_ret
  exact ⟨_,Er_,Rk_ a0,by repeat (first | (with_reducible first | exact HI0.out | apply IsS117.alloc | apply IsS117.drewN | apply IsS117.drew | apply IsS117.set_1) | exact HI0.out),by repeat (first | (with_reducible first | exact HB.out | apply lA1_ | apply lN_ | apply lD_ | refine lS1_ ?_ (IsS117.ge HI0.out)) | exact HB.out),by repeat (first | (with_reducible first | exact HK.out | apply KeepBut.set_ | apply kN_ | apply kD_ | apply kA_) | exact HK.out)⟩
def spec_l1Chance.f (s0_0 : List Int) (s0_1 a1 : Int) : Option (Bool × Int):=(spec_l1Next.f s0_0 s0_1 a1).bind fun bt222 => (some ((bt222.1 == 0),bt222.2))
set_option maxHeartbeats 8000000 in
set_option maxRecDepth 100000 in
theorem spec_l1Chance.calls (g : Nat) (s0_0 : List Int) (s0_1 a1 : Int) (r1 : Bool) (r2 : Int) (w0 w : World) (hI : IsS117 w0 w g s0_0 s0_1) (hB : Below w0.heap.size w0 w) (h : spec_l1Chance.f s0_0 s0_1 a1 = some (r1,r2)) :
  Calls Try.prog 66 #[.pointer (some ⟨g,0,none⟩),.int .i64 a1] w fun e w' => e = .returned (.bool r1) ∧ IsS117 w0 w' g s0_0 r2 ∧ Below w0.heap.size w0 w' ∧ KeepBut w w' g none:=by
 have HI0:=Z_ hI
 have HK:=Z_ (KeepBut.refl w g none)
 have HL:=Z_ hB.size
 clear hI
 have HW0:=Z_ hB.size
 have HB:=Z_ hB
 clear hB
 unfold spec_l1Chance.f at h
 have H:=h
 clear h
 replace H:=bS_ H
 obtain ⟨⟨t222,t223⟩,A3,H⟩:=H
 try dsimp only at H
 simp only [Option.some.injEq,Prod.mk.injEq] at H
 obtain ⟨rfl,rfl⟩:=H
 go_enter Try.func66,Try.ntmps66
 go_wp2_with (first | ((with_reducible refine gate_callee (f:=39) rfl ?_);refine goesA_ (some 7) rfl rfl Try.func39 (by kernel_rfl) rfl #[.pointer (some ⟨g,0,none⟩),.int .i64 a1] rfl ?_;(with_reducible refine (spec_l1Next.calls g s0_0 s0_1 a1 t222 t223 w0 _ ?side1 ?side2 A3.out).mono ?_);(case side1 => repeat (first | (with_reducible first | exact HI0.out | apply IsS117.set_1) | exact HI0.out));(case side2 => repeat (first | (with_reducible first | exact HB.out | refine lS1_ ?_ (IsS117.ge HI0.out)) | exact HB.out));rintro e w4 ⟨rfl,hi,hb,hk⟩;refine ⟨_,rfl,?_⟩;replace HK:=Z_ (KeepBut.trans (by repeat (first | (with_reducible first | exact HK.out | apply KeepBut.set_) | exact HK.out)) hk (.inl rfl));replace HB:=Z_ (hb);replace HI0:=Z_ (hi);(try clear hb);(try clear hk);(try clear hi)))
 go_ret
 exact ⟨Er_,by repeat (first | (with_reducible first | exact HI0.out | apply IsS117.alloc | apply IsS117.drewN | apply IsS117.drew | apply IsS117.set_1) | exact HI0.out),by repeat (first | (with_reducible first | exact HB.out | apply lA1_ | apply lN_ | apply lD_ | refine lS1_ ?_ (IsS117.ge HI0.out)) | exact HB.out),by repeat (first | (with_reducible first | exact HK.out | apply KeepBut.set_ | apply kN_ | apply kD_ | apply kA_) | exact HK.out)⟩
def spec_l5Place.f (s0_0 : List Int) (s0_1 : Int) (l1 : List (S36)) : Option (Int × Int):=(spec_l1Max.f 1 (l1.length : Int)).bind fun t224 => ((spec_l1Next.f s0_0 s0_1 t224).bind fun bt225 => ((spec_l1Max.f 1 (l1.length : Int)).bind fun t227 => ((spec_l1Next.f s0_0 bt225.2 t227).bind fun bt228 => ((spec_l1Pick.f s0_0 bt228.2 (([wrap64 ((l1.length : Int) - 1),bt225.1,bt228.1,wrap64 ((l1.length : Int) - 1),(l1.length : Int),(-1)] : List Int))).bind fun bt233 => (some (bt233.1,bt233.2))))))
set_option maxHeartbeats 8000000 in
set_option maxRecDepth 100000 in
theorem spec_l5Place.calls (g : Nat) (s0_0 : List Int) (s0_1 : Int) (A1 : Option Addr) (c1 : Nat) (l1 : List (S36)) (r1 r2 : Int) (w0 w : World) (hI : IsS117 w0 w g s0_0 s0_1) (hB : Below w0.heap.size w0 w) (hr1 : ∀ W_,KeepBut w W_ g none → Kd.C k36 W_ A1 l1.length l1) (hc1 : l1.length ≤ c1) (h : spec_l5Place.f s0_0 s0_1 l1 = some (r1,r2)) :
  Calls Try.prog 76 #[.pointer (some ⟨g,0,none⟩),.slice A1 l1.length c1] w fun e w' => e = .returned (.int .i64 r1) ∧ IsS117 w0 w' g s0_0 r2 ∧ Below w0.heap.size w0 w' ∧ KeepBut w w' g none:=by
 have a9:=Z_ hr1
 have aa:=Z_ hc1
 clear hr1 hc1
 have HI0:=Z_ hI
 have HK:=Z_ (KeepBut.refl w g none)
 have HL:=Z_ hB.size
 clear hI
 have HW0:=Z_ hB.size
 have HB:=Z_ hB
 clear hB
 unfold spec_l5Place.f at h
 have H:=h
 clear h
 replace H:=bS_ H
 obtain ⟨t224,A3,H⟩:=H
 replace H:=bS_ H
 obtain ⟨⟨t225,t226⟩,A4,H⟩:=H
 try dsimp only at H
 replace H:=bS_ H
 obtain ⟨t227,A5,H⟩:=H
 replace H:=bS_ H
 obtain ⟨⟨t228,t229⟩,A6,H⟩:=H
 try dsimp only at H
 obtain ⟨y230,hy230⟩ : ∃ y_ : List Int,y_ = (([wrap64 ((l1.length : Int) - 1),t225,t228,wrap64 ((l1.length : Int) - 1),(l1.length : Int),(-1)] : List Int)):=⟨_,rfl⟩
 replace H : ((spec_l1Pick.f s0_0 t229 y230).bind fun bt233 => (some (bt233.1,bt233.2))) = some (r1,r2):=by first | (rw [hy230];with_reducible exact H) | (have H2_:=(Option.bind_some _ _).symm.trans H;rw [hy230];with_reducible exact H2_) | (have H2_:=(Option.bind_some _ _).symm.trans H;with_reducible exact H2_) | with_reducible exact H | (rw [hy230];exact H) | exact H
 have a1:=Z_ hy230
 clear hy230
 replace H:=bS_ H
 obtain ⟨⟨t233,t234⟩,A7,H⟩:=H
 try dsimp only at H
 simp only [Option.some.injEq,Prod.mk.injEq] at H
 obtain ⟨rfl,rfl⟩:=H
 go_enter Try.func76,Try.ntmps76
 go_wp2_with (first | ((with_reducible refine gate_callee (f:=37) rfl ?_);refine goesA_ (some 13) rfl rfl Try.func37 (by kernel_rfl) rfl #[.int .i64 1,.int .i64 (l1.length : Int)] rfl ?_;(with_reducible refine (spec_l1Max.calls 1 (l1.length : Int) t224 _ A3.out).mono ?_);rintro e w' ⟨rfl,⟨nd,rfl⟩⟩;refine ⟨_,rfl,?_⟩) | ((with_reducible refine gate_callee (f:=39) rfl ?_);refine goesA_ (some 14) rfl rfl Try.func39 (by kernel_rfl) rfl #[.pointer (some ⟨g,0,none⟩),.int .i64 t224] rfl ?_;(with_reducible refine (spec_l1Next.calls g s0_0 s0_1 t224 t225 t226 w0 _ ?side1 ?side2 A4.out).mono ?_);(case side1 => repeat (first | (with_reducible first | exact HI0.out | apply IsS117.alloc | apply IsS117.drewN | apply IsS117.drew | apply IsS117.set_1) | exact HI0.out));(case side2 => repeat (first | (with_reducible first | exact HB.out | apply lA1_ | apply lN_ | apply lD_ | refine lS1_ ?_ (IsS117.ge HI0.out)) | exact HB.out));rintro e w8 ⟨rfl,hi,hb,hk⟩;refine ⟨_,rfl,?_⟩;replace HK:=Z_ (KeepBut.trans (by repeat (first | (with_reducible first | exact HK.out | apply KeepBut.set_ | apply kN_ | apply kD_ | apply kA_) | exact HK.out)) hk (.inl rfl));replace HB:=Z_ (hb);replace HI0:=Z_ (hi);(try clear hb);(try clear hk);(try clear hi)) | ((with_reducible refine gate_callee (f:=37) rfl ?_);refine goesA_ (some 17) rfl rfl Try.func37 (by kernel_rfl) rfl #[.int .i64 1,.int .i64 (l1.length : Int)] rfl ?_;(with_reducible refine (spec_l1Max.calls 1 (l1.length : Int) t227 _ A5.out).mono ?_);rintro e w' ⟨rfl,⟨nd,rfl⟩⟩;refine ⟨_,rfl,?_⟩) | ((with_reducible refine gate_callee (f:=39) rfl ?_);refine goesA_ (some 18) rfl rfl Try.func39 (by kernel_rfl) rfl #[.pointer (some ⟨g,0,none⟩),.int .i64 t227] rfl ?_;(with_reducible refine (spec_l1Next.calls g s0_0 t226 t227 t228 t229 w0 _ ?side1 ?side2 A6.out).mono ?_);(case side1 => repeat (first | (with_reducible first | exact HI0.out | apply IsS117.alloc | apply IsS117.drewN | apply IsS117.drew | apply IsS117.set_1) | exact HI0.out));(case side2 => repeat (first | (with_reducible first | exact HB.out | apply lA1_ | apply lN_ | apply lD_ | refine lS1_ ?_ (IsS117.ge HI0.out)) | exact HB.out));rintro e w9 ⟨rfl,hi,hb,hk⟩;refine ⟨_,rfl,?_⟩;replace HK:=Z_ (KeepBut.trans (by repeat (first | (with_reducible first | exact HK.out | apply KeepBut.set_ | apply kN_ | apply kD_ | apply kA_) | exact HK.out)) hk (.inl rfl));replace HB:=Z_ (hb);replace HI0:=Z_ (hi);(try clear hb);(try clear hk);(try clear hi)) | ((with_reducible refine gD_ 22 rfl ?_);refine Kd.R_lit (Kd.int .i64) _ 2 ?hg (N:=22) ?hd (xs:=([wrap64 ((l1.length : Int) - 1),t225,t228,wrap64 ((l1.length : Int) - 1),(l1.length : Int),(-1)] : List Int)) (inner:=[.int .i64 (wrap64 ((l1.length : Int) - 1)),.int .i64 t225,.int .i64 t228,.int .i64 (wrap64 ((l1.length : Int) - 1)),.int .i64 (l1.length : Int),.int .i64 (-1)]) (ok:=fun _ => True) (okp:=fun _ => True) ?hr ?hp (fun _ hk => hk) trivial (Below.refl _ _) (Nat.le_refl _) (by simp) ?_;(case hd => rfl);(case hg => rfl);(case hr => first | (go_simp;done) | (go_simp;rfl));(case hp => exact (Reps.one (show Kd.M (Kd.int .i64) _ _ _ (wrap64 ((l1.length : Int) - 1)) [.int .i64 (wrap64 ((l1.length : Int) - 1))] from rfl) (Reps.one (show Kd.M (Kd.int .i64) _ _ _ t225 [.int .i64 t225] from rfl) (Reps.one (show Kd.M (Kd.int .i64) _ _ _ t228 [.int .i64 t228] from rfl) (Reps.one (show Kd.M (Kd.int .i64) _ _ _ (wrap64 ((l1.length : Int) - 1)) [.int .i64 (wrap64 ((l1.length : Int) - 1))] from rfl) (Reps.one (show Kd.M (Kd.int .i64) _ _ _ (l1.length : Int) [.int .i64 (l1.length : Int)] from rfl) (Reps.one (show Kd.M (Kd.int .i64) _ _ _ (-1) [.int .i64 (-1)] from rfl) (Reps.none _ _))))))));intro v231 w10 ho11 hb hg_ hnew_;clear hg_ hnew_;(first | rw [← a1.out] at ho11 | (simp only [Int.reduceToNat] at ho11;rw [← a1.out] at ho11));have a0:=Z_ (Kd.R_lower ho11 (keep_size (w:=w) (g:=g) (row:=none) (by repeat (first | (with_reducible first | exact HK.out | apply KeepBut.set_) | exact HK.out))));replace HK:=Z_ (KeepBut.trans (by repeat (first | (with_reducible first | exact HK.out | apply KeepBut.set_) | exact HK.out)) (KeepBut.of_below hb g none) (.inl rfl));replace HB:=Z_ (lP_ (by repeat (first | (with_reducible first | exact HB.out | refine lS1_ ?_ (IsS117.ge HI0.out)) | exact HB.out)) hb);replace HI0:=Z_ (IsS117.below (by repeat (first | (with_reducible first | exact HI0.out | apply IsS117.set_1) | exact HI0.out)) hb);clear hb ho11;obtain ⟨a7,a8,eo12⟩:=Kd.R_slice a0.out;subst eo12) | ((with_reducible refine gate_callee (f:=40) rfl ?_);refine goesA_ (some 23) rfl rfl Try.func40 (by kernel_rfl) rfl #[.pointer (some ⟨g,0,none⟩),.slice a7 y230.length a8] rfl ?_;(with_reducible refine (spec_l1Pick.calls g s0_0 t229 _ _ y230 t233 t234 w0 _ ?side1 ?side2 ?side3 ?side4 ?side5 A7.out).mono ?_);(case side1 => repeat (first | (with_reducible first | exact HI0.out | apply IsS117.set_1) | exact HI0.out));(case side2 => repeat (first | (with_reducible first | exact HB.out | refine lS1_ ?_ (IsS117.ge HI0.out)) | exact HB.out));(case side3 => exact Rc_ a0);(case side4 => exact (Kd.R_reads' a0.out).2.1);(case side5 => exact far_slice (IsS117.own_ne HI0.out a0.out (by decide)));rintro e w13 ⟨rfl,hi,hb,hk⟩;refine ⟨_,rfl,?_⟩;replace HK:=Z_ (KeepBut.trans (by repeat (first | (with_reducible first | exact HK.out | apply KeepBut.set_) | exact HK.out)) hk (.inl rfl));replace HB:=Z_ (hb);replace HI0:=Z_ (hi);(try clear hb);(try clear hk);(try clear hi)))
 go_ret
 exact ⟨Er_,by repeat (first | (with_reducible first | exact HI0.out | apply IsS117.alloc | apply IsS117.drewN | apply IsS117.drew | apply IsS117.set_1) | exact HI0.out),by repeat (first | (with_reducible first | exact HB.out | apply lA1_ | apply lN_ | apply lD_ | refine lS1_ ?_ (IsS117.ge HI0.out)) | exact HB.out),by repeat (first | (with_reducible first | exact HK.out | apply KeepBut.set_ | apply kN_ | apply kD_ | apply kA_) | exact HK.out)⟩
def spec_l9Op.l0 : Nat → List (S36) → Int → Int → List Int → Int → Option (Int × Int)
 | 0,_,_,_,_,_ => none
 | k + 1,x1,x2,x7,x1000,x1001 => if x7 ≥ 0 then (if 0 ≤ x7 then (if x7 < (x1.length : Int) then (if ((rd_T36 x1 x7).f0) = x2 then ((spec_l1Chance.f x1000 x1001 3).bind fun bt236 => (if bt236.1 = true then (spec_l9Op.l0 k x1 x2 (wrap64 (x7 - 1)) x1000 bt236.2) else (some (x7,bt236.2)))) else (spec_l9Op.l0 k x1 x2 (wrap64 (x7 - 1)) x1000 x1001)) else (none)) else (none)) else ((spec_l5Place.f x1000 x1001 x1).bind fun bt238 => (some (bt238.1,bt238.2)))
def spec_l9Op.f (k : Nat) (s0_0 : List Int) (s0_1 : Int) (l1 : List (S36)) (a2 : Int) : Option (Int × Int):=spec_l9Op.l0 k l1 a2 (wrap64 ((l1.length : Int) - 1)) s0_0 s0_1
set_option maxHeartbeats 8000000 in
set_option maxRecDepth 100000 in
theorem spec_l9Op.calls (k g : Nat) (s0_0 : List Int) (s0_1 : Int) (A1 : Option Addr) (c1 : Nat) (l1 : List (S36)) (a2 r1 r2 : Int) (w0 w : World) (hI : IsS117 w0 w g s0_0 s0_1) (hB : Below w0.heap.size w0 w) (hr1 : ∀ W_,KeepBut w W_ g none → Kd.C k36 W_ A1 l1.length l1) (hc1 : l1.length ≤ c1) (h : spec_l9Op.f k s0_0 s0_1 l1 a2 = some (r1,r2)) :
  Calls Try.prog 38 #[.pointer (some ⟨g,0,none⟩),.slice A1 l1.length c1,.int .i64 a2] w fun e w' => e = .returned (.int .i64 r1) ∧ IsS117 w0 w' g s0_0 r2 ∧ Below w0.heap.size w0 w' ∧ KeepBut w w' g none:=by
 have a0:=Z_ hr1
 have a4:=Z_ hc1
 clear hr1 hc1
 have HI0:=Z_ hI
 have HK:=Z_ (KeepBut.refl w g none)
 have HL:=Z_ hB.size
 clear hI
 have HW0:=Z_ hB.size
 have HB:=Z_ hB
 clear hB
 unfold spec_l9Op.f at h
 have H:=h
 clear h
 have H':=Z_ H
 clear H
 go_enter Try.func38,Try.ntmps38
 go_wp2
 go_loopg [7] k (fun kq v7 w' => ∃ (x7_1 : Int) (x1001_1 : Int),v7 = .int .i64 x7_1 ∧ Aside0 (spec_l9Op.l0 kq l1 a2 x7_1 s0_0 x1001_1 = some (r1,r2)) ∧ Aside0 (kq ≤ k) ∧ Aside0 (IsS117 w0 w' g s0_0 x1001_1) ∧ Aside0 (KeepBut w w' g none) ∧ Aside0 (Below w0.heap.size w0 w'))
 case atStart => exact ⟨(wrap64 ((l1.length : Int) - 1)),(s0_1),Sr_,H',⟨Nat.le_refl _⟩,⟨by repeat (first | (with_reducible first | exact HI0.out | apply IsS117.alloc | apply IsS117.drewN | apply IsS117.drew | apply IsS117.set_1) | exact HI0.out)⟩,⟨by repeat (first | (with_reducible first | exact HK.out | apply KeepBut.set_ | apply kN_ | apply kD_ | apply kA_) | exact HK.out)⟩,⟨by repeat (first | (with_reducible first | exact HB.out | apply lA1_ | apply lN_ | apply lD_ | refine lS1_ ?_ (IsS117.ge HI0.out)) | exact HB.out)⟩⟩
 case round =>
  clear H'
  try clear c1
  try clear p2
  try clear c3
  obtain ⟨x7_1,x1001_1,rfl,HA,HK1,HI0,HK,HB⟩:=hrel
  cases gk with
  | zero => exact absurd HA.out (by simp [spec_l9Op.l0])
  | succ k1 =>
   have H:=HA.out
   clear HA
   simp only [spec_l9Op.l0] at H
   replace H:=iD_ H
   obtain ⟨c4b0,H⟩ | ⟨c4b0,H⟩:=H
   rotate_left
   ·replace c4b0 : decide (0 ≤ x7_1) = false:=c4b0
    replace H:=bS_ H
    obtain ⟨⟨t238,t239⟩,a5,H⟩:=H
    try dsimp only at H
    simp only [Option.some.injEq,Prod.mk.injEq] at H
    obtain ⟨rfl,rfl⟩:=H
    go_wp2_with (first | ((with_reducible refine gate_callee (f:=76) rfl ?_);refine goesA_ (some 30) rfl rfl Try.func76 (by kernel_rfl) rfl #[.pointer (some ⟨g,0,none⟩),.slice A1 l1.length c1] rfl ?_;(with_reducible refine (spec_l5Place.calls g s0_0 x1001_1 _ _ l1 t238 t239 w0 _ ?side1 ?side2 ?side3 ?side4 a5.out).mono ?_);(case side1 => repeat (first | (with_reducible first | exact HI0.out | apply IsS117.alloc | apply IsS117.drewN | apply IsS117.drew | apply IsS117.set_1) | exact HI0.out));(case side2 => repeat (first | (with_reducible first | exact HB.out | apply lA1_ | apply lN_ | apply lD_ | refine lS1_ ?_ (IsS117.ge HI0.out)) | exact HB.out));(case side3 => exact Kd.C_foot_step a0.out (by repeat (first | (with_reducible first | exact HK.out | apply KeepBut.set_ | apply kN_ | apply kD_ | apply kA_) | exact HK.out)));(case side4 => exact a4.out);rintro e w13 ⟨rfl,hi,hb,hk⟩;refine ⟨_,rfl,?_⟩;replace HK:=Z_ (KeepBut.trans (by repeat (first | (with_reducible first | exact HK.out | apply KeepBut.set_ | apply kN_ | apply kD_ | apply kA_) | exact HK.out)) hk (.inl rfl));replace HB:=Z_ (hb);replace HI0:=Z_ (hi);(try clear hb);(try clear hk);(try clear hi)))
    go_ret
    exact ⟨Er_,by repeat (first | (with_reducible first | exact HI0.out | apply IsS117.alloc | apply IsS117.drewN | apply IsS117.drew | apply IsS117.set_1) | exact HI0.out),by repeat (first | (with_reducible first | exact HB.out | apply lA1_ | apply lN_ | apply lD_ | refine lS1_ ?_ (IsS117.ge HI0.out)) | exact HB.out),by repeat (first | (with_reducible first | exact HK.out | apply KeepBut.set_ | apply kN_ | apply kD_ | apply kA_) | exact HK.out)⟩
   rotate_right
   replace c4b0 : decide (0 ≤ x7_1) = true:=c4b0
   replace H:=iM_ H
   obtain ⟨c5b0,H⟩:=H
   replace H:=iM_ H
   obtain ⟨c6b0,H⟩:=H
   replace H:=iE_ H
   obtain ⟨c7b0,c7b1,H⟩ | ⟨c7b0,c7b1,H⟩:=H
   replace H:=bS_ H
   obtain ⟨⟨t236,t237⟩,A8,H⟩:=H
   try dsimp only at H
   replace H:=iB_ H
   obtain ⟨rfl,H⟩ | ⟨rfl,H⟩:=H
   rotate_left
   ·simp only [Option.some.injEq,Prod.mk.injEq] at H
    obtain ⟨rfl,rfl⟩:=H
    have p235 : 0 ≤ (x7_1 : Int):=dA_
    have q235 : x7_1 < (l1.length : Int):=dA_
    obtain ⟨ad235,e235,hx235_0,hx235_1,hx235_2,hx235_3⟩:=at_T36 (Kd.C_foot_now a0.out HK.out) x7_1 p235 q235
    cases e235
    replace p235:=eq_true p235
    replace q235:=eq_true q235
    go_wp2_with (first | (go_at_call 66;(with_reducible refine (spec_l1Chance.calls g s0_0 x1001_1 3 false t237 w0 _ ?side1 ?side2 A8.out).mono ?_);(case side1 => repeat (first | (with_reducible first | exact HI0.out | apply IsS117.alloc | apply IsS117.drewN | apply IsS117.drew | apply IsS117.set_1) | exact HI0.out));(case side2 => repeat (first | (with_reducible first | exact HB.out | apply lA1_ | apply lN_ | apply lD_ | refine lS1_ ?_ (IsS117.ge HI0.out)) | exact HB.out));rintro e w11 ⟨rfl,hi,hb,hk⟩;replace HK:=Z_ (KeepBut.trans (by repeat (first | (with_reducible first | exact HK.out | apply KeepBut.set_ | apply kN_ | apply kD_ | apply kA_) | exact HK.out)) hk (.inl rfl));replace HB:=Z_ (hb);replace HI0:=Z_ (hi);(try clear hb);(try clear hk);(try clear hi)))
    go_ret
    exact ⟨Er_,by repeat (first | (with_reducible first | exact HI0.out | apply IsS117.alloc | apply IsS117.drewN | apply IsS117.drew | apply IsS117.set_1) | exact HI0.out),by repeat (first | (with_reducible first | exact HB.out | apply lA1_ | apply lN_ | apply lD_ | refine lS1_ ?_ (IsS117.ge HI0.out)) | exact HB.out),by repeat (first | (with_reducible first | exact HK.out | apply KeepBut.set_ | apply kN_ | apply kD_ | apply kA_) | exact HK.out)⟩
   all_goals
    have H':=Z_ H
    clear H
    have p235 : 0 ≤ (x7_1 : Int):=dA_
    have q235 : x7_1 < (l1.length : Int):=dA_
    obtain ⟨ad235,e235,hx235_0,hx235_1,hx235_2,hx235_3⟩:=at_T36 (Kd.C_foot_now a0.out HK.out) x7_1 p235 q235
    cases e235
    replace p235:=eq_true p235
    replace q235:=eq_true q235
    go_wp2_with (first | (go_at_call 66;(with_reducible refine (spec_l1Chance.calls g s0_0 x1001_1 3 true t237 w0 _ ?side1 ?side2 A8.out).mono ?_);(case side1 => repeat (first | (with_reducible first | exact HI0.out | apply IsS117.set_1) | exact HI0.out));(case side2 => repeat (first | (with_reducible first | exact HB.out | refine lS1_ ?_ (IsS117.ge HI0.out)) | exact HB.out));rintro e w10 ⟨rfl,hi,hb,hk⟩;replace HK:=Z_ (KeepBut.trans (by repeat (first | (with_reducible first | exact HK.out | apply KeepBut.set_) | exact HK.out)) hk (.inl rfl));replace HB:=Z_ (hb);replace HI0:=Z_ (hi);(try clear hb);(try clear hk);(try clear hi)))
    go_roundg k1
    case measure => have:=HK1.out;omega
    case rel => exact ⟨_,_,Sr_,H',⟨by have:=HK1.out;omega⟩,⟨by repeat (first | (with_reducible first | exact HI0.out | apply IsS117.alloc | apply IsS117.drewN | apply IsS117.drew | apply IsS117.set_1) | exact HI0.out)⟩,⟨by repeat (first | (with_reducible first | exact HK.out | apply KeepBut.set_ | apply kN_ | apply kD_ | apply kA_) | exact HK.out)⟩,⟨by repeat (first | (with_reducible first | exact HB.out | apply lA1_ | apply lN_ | apply lD_ | refine lS1_ ?_ (IsS117.ge HI0.out)) | exact HB.out)⟩⟩
end Go.Proofs.Ytpabeajjbifjdaa.G
