/- Part 2 of the proof of FnExactLearnsIt: what the functions on its road do, and the plain laws. -/
import Derived.Test.YtcafikgabidphaaGreatCFnExactLearnsIt1
import Derived.SizedLaws
import Derived.ChangeSlices
import Derived.Test.YtcafikgabidphaaGreatProg
import Derived.Below
import Derived.Deep.Draws
import Derived.Deep.AppendLies
import Derived.Maps.AppendAt
import Derived.OwnWalk
import Derived.Laws.BytesArg
import Derived.Laws.MakeOwn
import Derived.Laws.OwnMore
import Derived.Deep.OwnRows
import Derived.Tactics
import Derived.Lib.ConvBytes
import Derived.Laws.Slices
import Derived.WalkKit
import Derived.KernelRfl
import Derived.RowKit3
import Derived.Deep.LoopGhost
import Derived.Deep.QuietTactic
import Derived.BigQuiet
import Derived.WideLaws
import Derived.Deep.DeepCutAuto
import Derived.Deep.CutBlock
import Derived.Deep.RegionHeld3
import Derived.Laws.Rows
import Derived.Lib.AppendStr
import Derived.ArgAppend
import Derived.Laws.IdiomCopy
import Derived.OrdersHeld
import Derived.Laws.BitsLemmas
import Derived.RowKit
import Derived.WalkSpells
import Derived.Laws.Cells
import Derived.Deep.Slices
namespace Go.Proofs.YtcafikgabidphaaGreat.G
open Go.RowKit Go.Proofs.YtcafikgabidphaaGreatW.PrintWords Go.Proofs.YtcafikgabidphaaGreatW.PrintLast Go.Proofs.YtcafikgabidphaaGreatW.PrintMore
attribute [local go_sem] max2_int min2_int max_two min_two max_three min_three max_four min_four   -- for this text's walks alone
set_option linter.unusedVariables false
set_option linter.unusedSimpArgs false
def errW : Option Int → Value
  | none => .nilIface
  | some c => .iface 0 (.int .i64 c)
theorem errW_none : errW none = .nilIface:=rfl
theorem errW_some (c : Int) : errW (some c) = .iface 0 (.int .i64 c):=rfl
theorem info2 : (Tryz.prog.info? 2).map (fun i => (i.zero,i.size,i.bytes)) = some (some (.int .i64 0),1,8):=by kernel_rfl
theorem info4 : (Tryz.prog.info? 4).map (fun i => (i.zero,i.size,i.bytes)) = some (some (.bool false),1,1):=by kernel_rfl
theorem info76 : (Tryz.prog.info? 76).map (fun i => (i.zero,i.size,i.bytes)) = some (some (.agg #[(.int .i64 0),(.int .i64 0),(.slice none 0 0)]),3,40):=by kernel_rfl
theorem info83 : (Tryz.prog.info? 83).map (fun i => (i.zero,i.size,i.bytes)) = some (some (.agg #[(.int .i64 0),(.int .i64 0),(.int .i64 0),(.int .i64 0)]),4,32):=by kernel_rfl
theorem info88 : (Tryz.prog.info? 88).map (fun i => (i.zero,i.size,i.bytes)) = some (some (.agg #[(.int .i64 0),(.int .i64 0),(.int .i64 0),(.int .i64 0)]),4,32):=by kernel_rfl
theorem info114 : (Tryz.prog.info? 114).map (fun i => (i.zero,i.size,i.bytes)) = some (some (.agg #[(.int .i64 0),(.int .i64 0),(.int .i64 0),(.int .i64 0),(.int .i64 0),(.int .i64 0),(.int .i64 0),(.int .i64 0),(.int .i64 0),(.int .i64 0),(.int .i64 0),(.int .i64 0),(.int .i64 0),(.int .i64 0),(.int .i64 0),(.int .i64 0),(.int .i64 0),(.int .i64 0),(.int .i64 0),(.int .i64 0)]),20,160):=by kernel_rfl
structure S85 where
  f0 : Int
  f1 : Int
  f2 : Int
  f3 : Int
def z85 : S85:=⟨(0 : Int),(0 : Int),(0 : Int),(0 : Int)⟩
def k85 : Kd S85:=Kd.iso (Kd.pair (Kd.int .i64) (Kd.pair (Kd.int .i64) (Kd.pair (Kd.int .i64) (Kd.int .i64)))) (fun x : S85 => (x.f0,x.f1,x.f2,x.f3))
theorem k85_open {w : World} {x : S85} {cs : List Value} (h : k85.K w x cs) : cs = [.int .i64 x.f0,.int .i64 x.f1,.int .i64 x.f2,.int .i64 x.f3]:=by
  obtain ⟨_,_,rfl,rfl,⟨_,_,rfl,rfl,⟨_,_,rfl,rfl,rfl⟩⟩⟩:=h
  exact rfl
def rd_T85 (xs : List S85) (i : Int) : S85:=xs.getD i.toNat z85
theorem at_T85 {w : World} {A : Option Addr} {n : Nat} {xs : List S85} (h : Kd.C k85 w A n xs) (i : Int) (h0 : 0 ≤ i) (h1 : i < n) : ∃ ad ,A = some ad ∧ w.cell? (ad.add (i.toNat * 4)) = some (.int .i64 (rd_T85 xs i).f0) ∧ w.cell? ⟨(ad.add (i.toNat * 4)).block,(ad.add (i.toNat * 4)).off + 1,none⟩ = some (.int .i64 (rd_T85 xs i).f1) ∧ w.cell? ⟨(ad.add (i.toNat * 4)).block,(ad.add (i.toNat * 4)).off + 2,none⟩ = some (.int .i64 (rd_T85 xs i).f2) ∧ w.cell? ⟨(ad.add (i.toNat * 4)).block,(ad.add (i.toNat * 4)).off + 3,none⟩ = some (.int .i64 (rd_T85 xs i).f3):=by
  obtain ⟨ad,c,e,_,hK,hc0⟩:=Kd.C_get h z85 i h0 h1
  have hc : ∀ j u,c[j]? = some u → w.cell? (ad.add (i.toNat * 4 + j)) = some u:=hc0
  obtain rfl:=k85_open hK
  exact ⟨ad,e,hc 0 _ rfl,by rw [← add_field _ _ 1 (by omega)];exact hc 1 _ rfl,by rw [← add_field _ _ 2 (by omega)];exact hc 2 _ rfl,by rw [← add_field _ _ 3 (by omega)];exact hc 3 _ rfl⟩
structure S139 where
  f0 : Int
  f1 : Int
  f2 : Int
  f3 : Int
def z139 : S139:=⟨(0 : Int),(0 : Int),(0 : Int),(0 : Int)⟩
def k139 : Kd S139:=Kd.iso (Kd.pair (Kd.int .i64) (Kd.pair (Kd.int .i64) (Kd.pair (Kd.int .i64) (Kd.int .i64)))) (fun x : S139 => (x.f0,x.f1,x.f2,x.f3))
theorem k139_open {w : World} {x : S139} {cs : List Value} (h : k139.K w x cs) : cs = [.int .i64 x.f0,.int .i64 x.f1,.int .i64 x.f2,.int .i64 x.f3]:=by
  obtain ⟨_,_,rfl,rfl,⟨_,_,rfl,rfl,⟨_,_,rfl,rfl,rfl⟩⟩⟩:=h
  exact rfl
structure S140 where
  f0 : Int
  f1 : Int
def z140 : S140:=⟨(0 : Int),(0 : Int)⟩
def k140 : Kd S140:=Kd.iso (Kd.pair (Kd.int .i64) (Kd.int .i64)) (fun x : S140 => (x.f0,x.f1))
theorem k140_open {w : World} {x : S140} {cs : List Value} (h : k140.K w x cs) : cs = [.int .i64 x.f0,.int .i64 x.f1]:=by
  obtain ⟨_,_,rfl,rfl,rfl⟩:=h
  exact rfl
structure S142 where
  f0 : Int
  f1 : Int
  f2 : Int
  f3 : Int
  f4 : Int
  f5 : Int
  f6 : Int
  f7 : Int
  f8 : Int
  f9 : Int
  f10 : Int
  f11 : S139
  f12 : Int
  f13 : Int
  f14 : Int
  f15 : S140
def z142 : S142:=⟨(0 : Int),(0 : Int),(0 : Int),(0 : Int),(0 : Int),(0 : Int),(0 : Int),(0 : Int),(0 : Int),(0 : Int),(0 : Int),z139,(0 : Int),(0 : Int),(0 : Int),z140⟩
def k142 : Kd S142:=Kd.iso (Kd.pair (Kd.int .i64) (Kd.pair (Kd.int .i64) (Kd.pair (Kd.int .i64) (Kd.pair (Kd.int .i64) (Kd.pair (Kd.int .i64) (Kd.pair (Kd.int .i64) (Kd.pair (Kd.int .i64) (Kd.pair (Kd.int .i64) (Kd.pair (Kd.int .i64) (Kd.pair (Kd.int .i64) (Kd.pair (Kd.int .i64) (Kd.pair k139 (Kd.pair (Kd.int .i64) (Kd.pair (Kd.int .i64) (Kd.pair (Kd.int .i64) k140))))))))))))))) (fun x : S142 => (x.f0,x.f1,x.f2,x.f3,x.f4,x.f5,x.f6,x.f7,x.f8,x.f9,x.f10,x.f11,x.f12,x.f13,x.f14,x.f15))
theorem k142_open {w : World} {x : S142} {cs : List Value} (h : k142.K w x cs) : cs = [.int .i64 x.f0,.int .i64 x.f1,.int .i64 x.f2,.int .i64 x.f3,.int .i64 x.f4,.int .i64 x.f5,.int .i64 x.f6,.int .i64 x.f7,.int .i64 x.f8,.int .i64 x.f9,.int .i64 x.f10,.int .i64 x.f11.f0,.int .i64 x.f11.f1,.int .i64 x.f11.f2,.int .i64 x.f11.f3,.int .i64 x.f12,.int .i64 x.f13,.int .i64 x.f14,.int .i64 x.f15.f0,.int .i64 x.f15.f1]:=by
  obtain ⟨_,_,rfl,rfl,⟨_,_,rfl,rfl,⟨_,_,rfl,rfl,⟨_,_,rfl,rfl,⟨_,_,rfl,rfl,⟨_,_,rfl,rfl,⟨_,_,rfl,rfl,⟨_,_,rfl,rfl,⟨_,_,rfl,rfl,⟨_,_,rfl,rfl,⟨_,_,rfl,rfl,⟨_,_,rfl,s11,⟨_,_,rfl,rfl,⟨_,_,rfl,rfl,⟨_,_,rfl,rfl,s18⟩⟩⟩⟩⟩⟩⟩⟩⟩⟩⟩⟩⟩⟩⟩:=h
  obtain rfl:=k139_open s11
  obtain rfl:=k140_open s18
  exact rfl
def rd_T142 (xs : List S142) (i : Int) : S142:=xs.getD i.toNat z142
structure S71 where
  f0 : Int
  f1 : Int
  f2 : (List S142)
def z71 : S71:=⟨(0 : Int),(0 : Int),([] : List S142)⟩
def k71 : Kd S71:=Kd.iso (Kd.pair (Kd.int .i64) (Kd.pair (Kd.int .i64) (Kd.slice 142 k142))) (fun x : S71 => (x.f0,x.f1,x.f2))
theorem k71_open {w : World} {x : S71} {cs : List Value} (h : k71.K w x cs) : ∃ A2 c2,cs = [.int .i64 x.f0,.int .i64 x.f1,.slice A2 x.f2.length c2] ∧ x.f2.length ≤ c2 ∧ k142.C w A2 x.f2.length x.f2:=by
  obtain ⟨_,_,rfl,rfl,⟨_,_,rfl,rfl,⟨A2,c2,rfl,l2,g2⟩⟩⟩:=h
  exact ⟨A2,c2,rfl,l2,g2⟩
def rd_T71 (xs : List S71) (i : Int) : S71:=xs.getD i.toNat z71
theorem at_T71 {w : World} {A : Option Addr} {n : Nat} {xs : List S71} (h : Kd.C k71 w A n xs) (i : Int) (h0 : 0 ≤ i) (h1 : i < n) : ∃ ad A2 c2,A = some ad ∧ w.cell? (ad.add (i.toNat * 3)) = some (.int .i64 (rd_T71 xs i).f0) ∧ w.cell? ⟨(ad.add (i.toNat * 3)).block,(ad.add (i.toNat * 3)).off + 1,none⟩ = some (.int .i64 (rd_T71 xs i).f1) ∧ w.cell? ⟨(ad.add (i.toNat * 3)).block,(ad.add (i.toNat * 3)).off + 2,none⟩ = some (.slice A2 (rd_T71 xs i).f2.length c2) ∧ (rd_T71 xs i).f2.length ≤ c2 ∧ k142.C w A2 (rd_T71 xs i).f2.length (rd_T71 xs i).f2:=by
  obtain ⟨ad,c,e,_,hK,hc0⟩:=Kd.C_get h z71 i h0 h1
  have hc : ∀ j u,c[j]? = some u → w.cell? (ad.add (i.toNat * 3 + j)) = some u:=hc0
  obtain ⟨A2,c2,rfl,l2,g2⟩:=k71_open hK
  exact ⟨ad,A2,c2,e,hc 0 _ rfl,by rw [← add_field _ _ 1 (by omega)];exact hc 1 _ rfl,by rw [← add_field _ _ 2 (by omega)];exact hc 2 _ rfl,l2,g2⟩
structure S90 where
  f0 : Int
  f1 : Int
  f2 : Int
  f3 : Int
def z90 : S90:=⟨(0 : Int),(0 : Int),(0 : Int),(0 : Int)⟩
def k90 : Kd S90:=Kd.iso (Kd.pair (Kd.int .i64) (Kd.pair (Kd.int .i64) (Kd.pair (Kd.int .i64) (Kd.int .i64)))) (fun x : S90 => (x.f0,x.f1,x.f2,x.f3))
theorem k90_open {w : World} {x : S90} {cs : List Value} (h : k90.K w x cs) : cs = [.int .i64 x.f0,.int .i64 x.f1,.int .i64 x.f2,.int .i64 x.f3]:=by
  obtain ⟨_,_,rfl,rfl,⟨_,_,rfl,rfl,⟨_,_,rfl,rfl,rfl⟩⟩⟩:=h
  exact rfl
def rd_T90 (xs : List S90) (i : Int) : S90:=xs.getD i.toNat z90
theorem at_T90 {w : World} {A : Option Addr} {n : Nat} {xs : List S90} (h : Kd.C k90 w A n xs) (i : Int) (h0 : 0 ≤ i) (h1 : i < n) : ∃ ad ,A = some ad ∧ w.cell? (ad.add (i.toNat * 4)) = some (.int .i64 (rd_T90 xs i).f0) ∧ w.cell? ⟨(ad.add (i.toNat * 4)).block,(ad.add (i.toNat * 4)).off + 1,none⟩ = some (.int .i64 (rd_T90 xs i).f1) ∧ w.cell? ⟨(ad.add (i.toNat * 4)).block,(ad.add (i.toNat * 4)).off + 2,none⟩ = some (.int .i64 (rd_T90 xs i).f2) ∧ w.cell? ⟨(ad.add (i.toNat * 4)).block,(ad.add (i.toNat * 4)).off + 3,none⟩ = some (.int .i64 (rd_T90 xs i).f3):=by
  obtain ⟨ad,c,e,_,hK,hc0⟩:=Kd.C_get h z90 i h0 h1
  have hc : ∀ j u,c[j]? = some u → w.cell? (ad.add (i.toNat * 4 + j)) = some u:=hc0
  obtain rfl:=k90_open hK
  exact ⟨ad,e,hc 0 _ rfl,by rw [← add_field _ _ 1 (by omega)];exact hc 1 _ rfl,by rw [← add_field _ _ 2 (by omega)];exact hc 2 _ rfl,by rw [← add_field _ _ 3 (by omega)];exact hc 3 _ rfl⟩
structure S83 where
  f0 : Int
  f1 : Int
  f2 : Int
  f3 : Int
def z83 : S83:=⟨(0 : Int),(0 : Int),(0 : Int),(0 : Int)⟩
def k83 : Kd S83:=Kd.iso (Kd.pair (Kd.int .i64) (Kd.pair (Kd.int .i64) (Kd.pair (Kd.int .i64) (Kd.int .i64)))) (fun x : S83 => (x.f0,x.f1,x.f2,x.f3))
theorem k83_open {w : World} {x : S83} {cs : List Value} (h : k83.K w x cs) : cs = [.int .i64 x.f0,.int .i64 x.f1,.int .i64 x.f2,.int .i64 x.f3]:=by
  obtain ⟨_,_,rfl,rfl,⟨_,_,rfl,rfl,⟨_,_,rfl,rfl,rfl⟩⟩⟩:=h
  exact rfl
theorem k83_openM {w : World} {base : Nat} {ok : Nat → Prop} {x : S83} {cs : List Value} (h : k83.M w base ok x cs) : cs = [.int .i64 x.f0,.int .i64 x.f1,.int .i64 x.f2,.int .i64 x.f3]:=by
  obtain ⟨_,_,rfl,rfl,⟨_,_,rfl,rfl,⟨_,_,rfl,rfl,rfl⟩⟩⟩:=h
  exact rfl
theorem k83_mkM (w : World) (base : Nat) (ok : Nat → Prop) (x : S83)  : k83.M w base ok x [.int .i64 x.f0,.int .i64 x.f1,.int .i64 x.f2,.int .i64 x.f3]:=⟨[.int .i64 x.f0],[.int .i64 x.f1,.int .i64 x.f2,.int .i64 x.f3],rfl,rfl,⟨[.int .i64 x.f1],[.int .i64 x.f2,.int .i64 x.f3],rfl,rfl,⟨[.int .i64 x.f2],[.int .i64 x.f3],rfl,rfl,rfl⟩⟩⟩
def rd_T83 (xs : List S83) (i : Int) : S83:=xs.getD i.toNat z83
theorem at_T83 {w : World} {A : Option Addr} {n : Nat} {xs : List S83} (h : Kd.C k83 w A n xs) (i : Int) (h0 : 0 ≤ i) (h1 : i < n) : ∃ ad ,A = some ad ∧ w.cell? (ad.add (i.toNat * 4)) = some (.int .i64 (rd_T83 xs i).f0) ∧ w.cell? ⟨(ad.add (i.toNat * 4)).block,(ad.add (i.toNat * 4)).off + 1,none⟩ = some (.int .i64 (rd_T83 xs i).f1) ∧ w.cell? ⟨(ad.add (i.toNat * 4)).block,(ad.add (i.toNat * 4)).off + 2,none⟩ = some (.int .i64 (rd_T83 xs i).f2) ∧ w.cell? ⟨(ad.add (i.toNat * 4)).block,(ad.add (i.toNat * 4)).off + 3,none⟩ = some (.int .i64 (rd_T83 xs i).f3):=by
  obtain ⟨ad,c,e,_,hK,hc0⟩:=Kd.C_get h z83 i h0 h1
  have hc : ∀ j u,c[j]? = some u → w.cell? (ad.add (i.toNat * 4 + j)) = some u:=hc0
  obtain rfl:=k83_open hK
  exact ⟨ad,e,hc 0 _ rfl,by rw [← add_field _ _ 1 (by omega)];exact hc 1 _ rfl,by rw [← add_field _ _ 2 (by omega)];exact hc 2 _ rfl,by rw [← add_field _ _ 3 (by omega)];exact hc 3 _ rfl⟩
structure S110 where
  f0 : Int
  f1 : Int
  f2 : Int
  f3 : Int
def z110 : S110:=⟨(0 : Int),(0 : Int),(0 : Int),(0 : Int)⟩
def k110 : Kd S110:=Kd.iso (Kd.pair (Kd.int .i64) (Kd.pair (Kd.int .i64) (Kd.pair (Kd.int .i64) (Kd.int .i64)))) (fun x : S110 => (x.f0,x.f1,x.f2,x.f3))
theorem k110_open {w : World} {x : S110} {cs : List Value} (h : k110.K w x cs) : cs = [.int .i64 x.f0,.int .i64 x.f1,.int .i64 x.f2,.int .i64 x.f3]:=by
  obtain ⟨_,_,rfl,rfl,⟨_,_,rfl,rfl,⟨_,_,rfl,rfl,rfl⟩⟩⟩:=h
  exact rfl
theorem k110_openM {w : World} {base : Nat} {ok : Nat → Prop} {x : S110} {cs : List Value} (h : k110.M w base ok x cs) : cs = [.int .i64 x.f0,.int .i64 x.f1,.int .i64 x.f2,.int .i64 x.f3]:=by
  obtain ⟨_,_,rfl,rfl,⟨_,_,rfl,rfl,⟨_,_,rfl,rfl,rfl⟩⟩⟩:=h
  exact rfl
theorem k110_mkM (w : World) (base : Nat) (ok : Nat → Prop) (x : S110)  : k110.M w base ok x [.int .i64 x.f0,.int .i64 x.f1,.int .i64 x.f2,.int .i64 x.f3]:=⟨[.int .i64 x.f0],[.int .i64 x.f1,.int .i64 x.f2,.int .i64 x.f3],rfl,rfl,⟨[.int .i64 x.f1],[.int .i64 x.f2,.int .i64 x.f3],rfl,rfl,⟨[.int .i64 x.f2],[.int .i64 x.f3],rfl,rfl,rfl⟩⟩⟩
structure S112 where
  f0 : Int
  f1 : Int
def z112 : S112:=⟨(0 : Int),(0 : Int)⟩
def k112 : Kd S112:=Kd.iso (Kd.pair (Kd.int .i64) (Kd.int .i64)) (fun x : S112 => (x.f0,x.f1))
theorem k112_open {w : World} {x : S112} {cs : List Value} (h : k112.K w x cs) : cs = [.int .i64 x.f0,.int .i64 x.f1]:=by
  obtain ⟨_,_,rfl,rfl,rfl⟩:=h
  exact rfl
theorem k112_openM {w : World} {base : Nat} {ok : Nat → Prop} {x : S112} {cs : List Value} (h : k112.M w base ok x cs) : cs = [.int .i64 x.f0,.int .i64 x.f1]:=by
  obtain ⟨_,_,rfl,rfl,rfl⟩:=h
  exact rfl
theorem k112_mkM (w : World) (base : Nat) (ok : Nat → Prop) (x : S112)  : k112.M w base ok x [.int .i64 x.f0,.int .i64 x.f1]:=⟨[.int .i64 x.f0],[.int .i64 x.f1],rfl,rfl,rfl⟩
structure S114 where
  f0 : Int
  f1 : Int
  f2 : Int
  f3 : Int
  f4 : Int
  f5 : Int
  f6 : Int
  f7 : Int
  f8 : Int
  f9 : Int
  f10 : Int
  f11 : S110
  f12 : Int
  f13 : Int
  f14 : Int
  f15 : S112
def z114 : S114:=⟨(0 : Int),(0 : Int),(0 : Int),(0 : Int),(0 : Int),(0 : Int),(0 : Int),(0 : Int),(0 : Int),(0 : Int),(0 : Int),z110,(0 : Int),(0 : Int),(0 : Int),z112⟩
def k114 : Kd S114:=Kd.iso (Kd.pair (Kd.int .i64) (Kd.pair (Kd.int .i64) (Kd.pair (Kd.int .i64) (Kd.pair (Kd.int .i64) (Kd.pair (Kd.int .i64) (Kd.pair (Kd.int .i64) (Kd.pair (Kd.int .i64) (Kd.pair (Kd.int .i64) (Kd.pair (Kd.int .i64) (Kd.pair (Kd.int .i64) (Kd.pair (Kd.int .i64) (Kd.pair k110 (Kd.pair (Kd.int .i64) (Kd.pair (Kd.int .i64) (Kd.pair (Kd.int .i64) k112))))))))))))))) (fun x : S114 => (x.f0,x.f1,x.f2,x.f3,x.f4,x.f5,x.f6,x.f7,x.f8,x.f9,x.f10,x.f11,x.f12,x.f13,x.f14,x.f15))
theorem k114_open {w : World} {x : S114} {cs : List Value} (h : k114.K w x cs) : cs = [.int .i64 x.f0,.int .i64 x.f1,.int .i64 x.f2,.int .i64 x.f3,.int .i64 x.f4,.int .i64 x.f5,.int .i64 x.f6,.int .i64 x.f7,.int .i64 x.f8,.int .i64 x.f9,.int .i64 x.f10,.int .i64 x.f11.f0,.int .i64 x.f11.f1,.int .i64 x.f11.f2,.int .i64 x.f11.f3,.int .i64 x.f12,.int .i64 x.f13,.int .i64 x.f14,.int .i64 x.f15.f0,.int .i64 x.f15.f1]:=by
  obtain ⟨_,_,rfl,rfl,⟨_,_,rfl,rfl,⟨_,_,rfl,rfl,⟨_,_,rfl,rfl,⟨_,_,rfl,rfl,⟨_,_,rfl,rfl,⟨_,_,rfl,rfl,⟨_,_,rfl,rfl,⟨_,_,rfl,rfl,⟨_,_,rfl,rfl,⟨_,_,rfl,rfl,⟨_,_,rfl,s11,⟨_,_,rfl,rfl,⟨_,_,rfl,rfl,⟨_,_,rfl,rfl,s18⟩⟩⟩⟩⟩⟩⟩⟩⟩⟩⟩⟩⟩⟩⟩:=h
  obtain rfl:=k110_open s11
  obtain rfl:=k112_open s18
  exact rfl
theorem k114_openM {w : World} {base : Nat} {ok : Nat → Prop} {x : S114} {cs : List Value} (h : k114.M w base ok x cs) : cs = [.int .i64 x.f0,.int .i64 x.f1,.int .i64 x.f2,.int .i64 x.f3,.int .i64 x.f4,.int .i64 x.f5,.int .i64 x.f6,.int .i64 x.f7,.int .i64 x.f8,.int .i64 x.f9,.int .i64 x.f10,.int .i64 x.f11.f0,.int .i64 x.f11.f1,.int .i64 x.f11.f2,.int .i64 x.f11.f3,.int .i64 x.f12,.int .i64 x.f13,.int .i64 x.f14,.int .i64 x.f15.f0,.int .i64 x.f15.f1]:=by
  obtain ⟨_,_,rfl,rfl,⟨_,_,rfl,rfl,⟨_,_,rfl,rfl,⟨_,_,rfl,rfl,⟨_,_,rfl,rfl,⟨_,_,rfl,rfl,⟨_,_,rfl,rfl,⟨_,_,rfl,rfl,⟨_,_,rfl,rfl,⟨_,_,rfl,rfl,⟨_,_,rfl,rfl,⟨_,_,rfl,s11,⟨_,_,rfl,rfl,⟨_,_,rfl,rfl,⟨_,_,rfl,rfl,s18⟩⟩⟩⟩⟩⟩⟩⟩⟩⟩⟩⟩⟩⟩⟩:=h
  obtain rfl:=k110_openM s11
  obtain rfl:=k112_openM s18
  exact rfl
theorem k114_mkM (w : World) (base : Nat) (ok : Nat → Prop) (x : S114)  : k114.M w base ok x [.int .i64 x.f0,.int .i64 x.f1,.int .i64 x.f2,.int .i64 x.f3,.int .i64 x.f4,.int .i64 x.f5,.int .i64 x.f6,.int .i64 x.f7,.int .i64 x.f8,.int .i64 x.f9,.int .i64 x.f10,.int .i64 x.f11.f0,.int .i64 x.f11.f1,.int .i64 x.f11.f2,.int .i64 x.f11.f3,.int .i64 x.f12,.int .i64 x.f13,.int .i64 x.f14,.int .i64 x.f15.f0,.int .i64 x.f15.f1]:=⟨[.int .i64 x.f0],[.int .i64 x.f1,.int .i64 x.f2,.int .i64 x.f3,.int .i64 x.f4,.int .i64 x.f5,.int .i64 x.f6,.int .i64 x.f7,.int .i64 x.f8,.int .i64 x.f9,.int .i64 x.f10,.int .i64 x.f11.f0,.int .i64 x.f11.f1,.int .i64 x.f11.f2,.int .i64 x.f11.f3,.int .i64 x.f12,.int .i64 x.f13,.int .i64 x.f14,.int .i64 x.f15.f0,.int .i64 x.f15.f1],rfl,rfl,⟨[.int .i64 x.f1],[.int .i64 x.f2,.int .i64 x.f3,.int .i64 x.f4,.int .i64 x.f5,.int .i64 x.f6,.int .i64 x.f7,.int .i64 x.f8,.int .i64 x.f9,.int .i64 x.f10,.int .i64 x.f11.f0,.int .i64 x.f11.f1,.int .i64 x.f11.f2,.int .i64 x.f11.f3,.int .i64 x.f12,.int .i64 x.f13,.int .i64 x.f14,.int .i64 x.f15.f0,.int .i64 x.f15.f1],rfl,rfl,⟨[.int .i64 x.f2],[.int .i64 x.f3,.int .i64 x.f4,.int .i64 x.f5,.int .i64 x.f6,.int .i64 x.f7,.int .i64 x.f8,.int .i64 x.f9,.int .i64 x.f10,.int .i64 x.f11.f0,.int .i64 x.f11.f1,.int .i64 x.f11.f2,.int .i64 x.f11.f3,.int .i64 x.f12,.int .i64 x.f13,.int .i64 x.f14,.int .i64 x.f15.f0,.int .i64 x.f15.f1],rfl,rfl,⟨[.int .i64 x.f3],[.int .i64 x.f4,.int .i64 x.f5,.int .i64 x.f6,.int .i64 x.f7,.int .i64 x.f8,.int .i64 x.f9,.int .i64 x.f10,.int .i64 x.f11.f0,.int .i64 x.f11.f1,.int .i64 x.f11.f2,.int .i64 x.f11.f3,.int .i64 x.f12,.int .i64 x.f13,.int .i64 x.f14,.int .i64 x.f15.f0,.int .i64 x.f15.f1],rfl,rfl,⟨[.int .i64 x.f4],[.int .i64 x.f5,.int .i64 x.f6,.int .i64 x.f7,.int .i64 x.f8,.int .i64 x.f9,.int .i64 x.f10,.int .i64 x.f11.f0,.int .i64 x.f11.f1,.int .i64 x.f11.f2,.int .i64 x.f11.f3,.int .i64 x.f12,.int .i64 x.f13,.int .i64 x.f14,.int .i64 x.f15.f0,.int .i64 x.f15.f1],rfl,rfl,⟨[.int .i64 x.f5],[.int .i64 x.f6,.int .i64 x.f7,.int .i64 x.f8,.int .i64 x.f9,.int .i64 x.f10,.int .i64 x.f11.f0,.int .i64 x.f11.f1,.int .i64 x.f11.f2,.int .i64 x.f11.f3,.int .i64 x.f12,.int .i64 x.f13,.int .i64 x.f14,.int .i64 x.f15.f0,.int .i64 x.f15.f1],rfl,rfl,⟨[.int .i64 x.f6],[.int .i64 x.f7,.int .i64 x.f8,.int .i64 x.f9,.int .i64 x.f10,.int .i64 x.f11.f0,.int .i64 x.f11.f1,.int .i64 x.f11.f2,.int .i64 x.f11.f3,.int .i64 x.f12,.int .i64 x.f13,.int .i64 x.f14,.int .i64 x.f15.f0,.int .i64 x.f15.f1],rfl,rfl,⟨[.int .i64 x.f7],[.int .i64 x.f8,.int .i64 x.f9,.int .i64 x.f10,.int .i64 x.f11.f0,.int .i64 x.f11.f1,.int .i64 x.f11.f2,.int .i64 x.f11.f3,.int .i64 x.f12,.int .i64 x.f13,.int .i64 x.f14,.int .i64 x.f15.f0,.int .i64 x.f15.f1],rfl,rfl,⟨[.int .i64 x.f8],[.int .i64 x.f9,.int .i64 x.f10,.int .i64 x.f11.f0,.int .i64 x.f11.f1,.int .i64 x.f11.f2,.int .i64 x.f11.f3,.int .i64 x.f12,.int .i64 x.f13,.int .i64 x.f14,.int .i64 x.f15.f0,.int .i64 x.f15.f1],rfl,rfl,⟨[.int .i64 x.f9],[.int .i64 x.f10,.int .i64 x.f11.f0,.int .i64 x.f11.f1,.int .i64 x.f11.f2,.int .i64 x.f11.f3,.int .i64 x.f12,.int .i64 x.f13,.int .i64 x.f14,.int .i64 x.f15.f0,.int .i64 x.f15.f1],rfl,rfl,⟨[.int .i64 x.f10],[.int .i64 x.f11.f0,.int .i64 x.f11.f1,.int .i64 x.f11.f2,.int .i64 x.f11.f3,.int .i64 x.f12,.int .i64 x.f13,.int .i64 x.f14,.int .i64 x.f15.f0,.int .i64 x.f15.f1],rfl,rfl,⟨[.int .i64 x.f11.f0,.int .i64 x.f11.f1,.int .i64 x.f11.f2,.int .i64 x.f11.f3],[.int .i64 x.f12,.int .i64 x.f13,.int .i64 x.f14,.int .i64 x.f15.f0,.int .i64 x.f15.f1],rfl,(k110_mkM w base ok x.f11 ),⟨[.int .i64 x.f12],[.int .i64 x.f13,.int .i64 x.f14,.int .i64 x.f15.f0,.int .i64 x.f15.f1],rfl,rfl,⟨[.int .i64 x.f13],[.int .i64 x.f14,.int .i64 x.f15.f0,.int .i64 x.f15.f1],rfl,rfl,⟨[.int .i64 x.f14],[.int .i64 x.f15.f0,.int .i64 x.f15.f1],rfl,rfl,(k112_mkM w base ok x.f15 )⟩⟩⟩⟩⟩⟩⟩⟩⟩⟩⟩⟩⟩⟩⟩
def rd_T114 (xs : List S114) (i : Int) : S114:=xs.getD i.toNat z114
theorem at_T114 {w : World} {A : Option Addr} {n : Nat} {xs : List S114} (h : Kd.C k114 w A n xs) (i : Int) (h0 : 0 ≤ i) (h1 : i < n) : ∃ ad ,A = some ad ∧ w.cell? (ad.add (i.toNat * 20)) = some (.int .i64 (rd_T114 xs i).f0) ∧ w.cell? ⟨(ad.add (i.toNat * 20)).block,(ad.add (i.toNat * 20)).off + 1,none⟩ = some (.int .i64 (rd_T114 xs i).f1) ∧ w.cell? ⟨(ad.add (i.toNat * 20)).block,(ad.add (i.toNat * 20)).off + 2,none⟩ = some (.int .i64 (rd_T114 xs i).f2) ∧ w.cell? ⟨(ad.add (i.toNat * 20)).block,(ad.add (i.toNat * 20)).off + 3,none⟩ = some (.int .i64 (rd_T114 xs i).f3) ∧ w.cell? ⟨(ad.add (i.toNat * 20)).block,(ad.add (i.toNat * 20)).off + 4,none⟩ = some (.int .i64 (rd_T114 xs i).f4) ∧ w.cell? ⟨(ad.add (i.toNat * 20)).block,(ad.add (i.toNat * 20)).off + 5,none⟩ = some (.int .i64 (rd_T114 xs i).f5) ∧ w.cell? ⟨(ad.add (i.toNat * 20)).block,(ad.add (i.toNat * 20)).off + 6,none⟩ = some (.int .i64 (rd_T114 xs i).f6) ∧ w.cell? ⟨(ad.add (i.toNat * 20)).block,(ad.add (i.toNat * 20)).off + 7,none⟩ = some (.int .i64 (rd_T114 xs i).f7) ∧ w.cell? ⟨(ad.add (i.toNat * 20)).block,(ad.add (i.toNat * 20)).off + 8,none⟩ = some (.int .i64 (rd_T114 xs i).f8) ∧ w.cell? ⟨(ad.add (i.toNat * 20)).block,(ad.add (i.toNat * 20)).off + 9,none⟩ = some (.int .i64 (rd_T114 xs i).f9) ∧ w.cell? ⟨(ad.add (i.toNat * 20)).block,(ad.add (i.toNat * 20)).off + 10,none⟩ = some (.int .i64 (rd_T114 xs i).f10) ∧ w.cell? ⟨(ad.add (i.toNat * 20)).block,(ad.add (i.toNat * 20)).off + 11,none⟩ = some (.int .i64 (rd_T114 xs i).f11.f0) ∧ w.cell? ⟨(ad.add (i.toNat * 20)).block,(ad.add (i.toNat * 20)).off + 12,none⟩ = some (.int .i64 (rd_T114 xs i).f11.f1) ∧ w.cell? ⟨(ad.add (i.toNat * 20)).block,(ad.add (i.toNat * 20)).off + 13,none⟩ = some (.int .i64 (rd_T114 xs i).f11.f2) ∧ w.cell? ⟨(ad.add (i.toNat * 20)).block,(ad.add (i.toNat * 20)).off + 14,none⟩ = some (.int .i64 (rd_T114 xs i).f11.f3) ∧ w.cell? ⟨(ad.add (i.toNat * 20)).block,(ad.add (i.toNat * 20)).off + 15,none⟩ = some (.int .i64 (rd_T114 xs i).f12) ∧ w.cell? ⟨(ad.add (i.toNat * 20)).block,(ad.add (i.toNat * 20)).off + 16,none⟩ = some (.int .i64 (rd_T114 xs i).f13) ∧ w.cell? ⟨(ad.add (i.toNat * 20)).block,(ad.add (i.toNat * 20)).off + 17,none⟩ = some (.int .i64 (rd_T114 xs i).f14) ∧ w.cell? ⟨(ad.add (i.toNat * 20)).block,(ad.add (i.toNat * 20)).off + 18,none⟩ = some (.int .i64 (rd_T114 xs i).f15.f0) ∧ w.cell? ⟨(ad.add (i.toNat * 20)).block,(ad.add (i.toNat * 20)).off + 19,none⟩ = some (.int .i64 (rd_T114 xs i).f15.f1):=by
  obtain ⟨ad,c,e,_,hK,hc0⟩:=Kd.C_get h z114 i h0 h1
  have hc : ∀ j u,c[j]? = some u → w.cell? (ad.add (i.toNat * 20 + j)) = some u:=hc0
  obtain rfl:=k114_open hK
  exact ⟨ad,e,hc 0 _ rfl,by rw [← add_field _ _ 1 (by omega)];exact hc 1 _ rfl,by rw [← add_field _ _ 2 (by omega)];exact hc 2 _ rfl,by rw [← add_field _ _ 3 (by omega)];exact hc 3 _ rfl,by rw [← add_field _ _ 4 (by omega)];exact hc 4 _ rfl,by rw [← add_field _ _ 5 (by omega)];exact hc 5 _ rfl,by rw [← add_field _ _ 6 (by omega)];exact hc 6 _ rfl,by rw [← add_field _ _ 7 (by omega)];exact hc 7 _ rfl,by rw [← add_field _ _ 8 (by omega)];exact hc 8 _ rfl,by rw [← add_field _ _ 9 (by omega)];exact hc 9 _ rfl,by rw [← add_field _ _ 10 (by omega)];exact hc 10 _ rfl,by rw [← add_field _ _ 11 (by omega)];exact hc 11 _ rfl,by rw [← add_field _ _ 12 (by omega)];exact hc 12 _ rfl,by rw [← add_field _ _ 13 (by omega)];exact hc 13 _ rfl,by rw [← add_field _ _ 14 (by omega)];exact hc 14 _ rfl,by rw [← add_field _ _ 15 (by omega)];exact hc 15 _ rfl,by rw [← add_field _ _ 16 (by omega)];exact hc 16 _ rfl,by rw [← add_field _ _ 17 (by omega)];exact hc 17 _ rfl,by rw [← add_field _ _ 18 (by omega)];exact hc 18 _ rfl,by rw [← add_field _ _ 19 (by omega)];exact hc 19 _ rfl⟩
structure S88 where
  f0 : Int
  f1 : Int
  f2 : Int
  f3 : Int
def z88 : S88:=⟨(0 : Int),(0 : Int),(0 : Int),(0 : Int)⟩
def k88 : Kd S88:=Kd.iso (Kd.pair (Kd.int .i64) (Kd.pair (Kd.int .i64) (Kd.pair (Kd.int .i64) (Kd.int .i64)))) (fun x : S88 => (x.f0,x.f1,x.f2,x.f3))
theorem k88_open {w : World} {x : S88} {cs : List Value} (h : k88.K w x cs) : cs = [.int .i64 x.f0,.int .i64 x.f1,.int .i64 x.f2,.int .i64 x.f3]:=by
  obtain ⟨_,_,rfl,rfl,⟨_,_,rfl,rfl,⟨_,_,rfl,rfl,rfl⟩⟩⟩:=h
  exact rfl
theorem k88_openM {w : World} {base : Nat} {ok : Nat → Prop} {x : S88} {cs : List Value} (h : k88.M w base ok x cs) : cs = [.int .i64 x.f0,.int .i64 x.f1,.int .i64 x.f2,.int .i64 x.f3]:=by
  obtain ⟨_,_,rfl,rfl,⟨_,_,rfl,rfl,⟨_,_,rfl,rfl,rfl⟩⟩⟩:=h
  exact rfl
theorem k88_mkM (w : World) (base : Nat) (ok : Nat → Prop) (x : S88)  : k88.M w base ok x [.int .i64 x.f0,.int .i64 x.f1,.int .i64 x.f2,.int .i64 x.f3]:=⟨[.int .i64 x.f0],[.int .i64 x.f1,.int .i64 x.f2,.int .i64 x.f3],rfl,rfl,⟨[.int .i64 x.f1],[.int .i64 x.f2,.int .i64 x.f3],rfl,rfl,⟨[.int .i64 x.f2],[.int .i64 x.f3],rfl,rfl,rfl⟩⟩⟩
def rd_T88 (xs : List S88) (i : Int) : S88:=xs.getD i.toNat z88
theorem at_T88 {w : World} {A : Option Addr} {n : Nat} {xs : List S88} (h : Kd.C k88 w A n xs) (i : Int) (h0 : 0 ≤ i) (h1 : i < n) : ∃ ad ,A = some ad ∧ w.cell? (ad.add (i.toNat * 4)) = some (.int .i64 (rd_T88 xs i).f0) ∧ w.cell? ⟨(ad.add (i.toNat * 4)).block,(ad.add (i.toNat * 4)).off + 1,none⟩ = some (.int .i64 (rd_T88 xs i).f1) ∧ w.cell? ⟨(ad.add (i.toNat * 4)).block,(ad.add (i.toNat * 4)).off + 2,none⟩ = some (.int .i64 (rd_T88 xs i).f2) ∧ w.cell? ⟨(ad.add (i.toNat * 4)).block,(ad.add (i.toNat * 4)).off + 3,none⟩ = some (.int .i64 (rd_T88 xs i).f3):=by
  obtain ⟨ad,c,e,_,hK,hc0⟩:=Kd.C_get h z88 i h0 h1
  have hc : ∀ j u,c[j]? = some u → w.cell? (ad.add (i.toNat * 4 + j)) = some u:=hc0
  obtain rfl:=k88_open hK
  exact ⟨ad,e,hc 0 _ rfl,by rw [← add_field _ _ 1 (by omega)];exact hc 1 _ rfl,by rw [← add_field _ _ 2 (by omega)];exact hc 2 _ rfl,by rw [← add_field _ _ 3 (by omega)];exact hc 3 _ rfl⟩
def rd_L13 (xs : List (List S88)) (i : Int) : (List S88):=xs.getD i.toNat ([] : List S88)
theorem at_L13 {w : World} {A : Option Addr} {n : Nat} {xs : List (List S88)} (h : Kd.C (Kd.slice 88 k88) w A n xs) (i : Int) (h0 : 0 ≤ i) (h1 : i < n) : ∃ ad A0 c0,A = some ad ∧ w.cell? (ad.add i.toNat) = some (.slice A0 (rd_L13 xs i).length c0) ∧ (rd_L13 xs i).length ≤ c0 ∧ k88.C w A0 (rd_L13 xs i).length (rd_L13 xs i):=by
  obtain ⟨ad,c,e,_,hK,hc0⟩:=Kd.C_get h ([] : List S88) i h0 h1
  have hc : ∀ j u,c[j]? = some u → w.cell? (ad.add (i.toNat * 1 + j)) = some u:=hc0
  obtain ⟨A0,c0,rfl,l0,g0⟩:=hK
  exact ⟨ad,A0,c0,e,by have hq:=hc 0 _ rfl;rwa [Nat.mul_one,Nat.add_zero] at hq,l0,g0⟩
structure S76 where
  f0 : Int
  f1 : Int
  f2 : (List S114)
def z76 : S76:=⟨(0 : Int),(0 : Int),([] : List S114)⟩
def k76 : Kd S76:=Kd.iso (Kd.pair (Kd.int .i64) (Kd.pair (Kd.int .i64) (Kd.slice 114 k114))) (fun x : S76 => (x.f0,x.f1,x.f2))
theorem k76_open {w : World} {x : S76} {cs : List Value} (h : k76.K w x cs) : ∃ A2 c2,cs = [.int .i64 x.f0,.int .i64 x.f1,.slice A2 x.f2.length c2] ∧ x.f2.length ≤ c2 ∧ k114.C w A2 x.f2.length x.f2:=by
  obtain ⟨_,_,rfl,rfl,⟨_,_,rfl,rfl,⟨A2,c2,rfl,l2,g2⟩⟩⟩:=h
  exact ⟨A2,c2,rfl,l2,g2⟩
theorem k76_openM {w : World} {base : Nat} {ok : Nat → Prop} {x : S76} {cs : List Value} (h : k76.M w base ok x cs) : ∃ v2,cs = [.int .i64 x.f0,.int .i64 x.f1,v2] ∧ k114.R 114 w base ok v2 x.f2:=by
  obtain ⟨_,_,rfl,rfl,⟨_,_,rfl,rfl,⟨v2,rfl,g2⟩⟩⟩:=h
  exact ⟨v2,rfl,g2⟩
theorem k76_mkM (w : World) (base : Nat) (ok : Nat → Prop) (x : S76) {v2 : Value} (g2 : k114.R 114 w base ok v2 x.f2) : k76.M w base ok x [.int .i64 x.f0,.int .i64 x.f1,v2]:=⟨[.int .i64 x.f0],[.int .i64 x.f1,v2],rfl,rfl,⟨[.int .i64 x.f1],[v2],rfl,rfl,⟨v2,rfl,g2⟩⟩⟩
def rd_T76 (xs : List S76) (i : Int) : S76:=xs.getD i.toNat z76
theorem at_T76 {w : World} {A : Option Addr} {n : Nat} {xs : List S76} (h : Kd.C k76 w A n xs) (i : Int) (h0 : 0 ≤ i) (h1 : i < n) : ∃ ad A2 c2,A = some ad ∧ w.cell? (ad.add (i.toNat * 3)) = some (.int .i64 (rd_T76 xs i).f0) ∧ w.cell? ⟨(ad.add (i.toNat * 3)).block,(ad.add (i.toNat * 3)).off + 1,none⟩ = some (.int .i64 (rd_T76 xs i).f1) ∧ w.cell? ⟨(ad.add (i.toNat * 3)).block,(ad.add (i.toNat * 3)).off + 2,none⟩ = some (.slice A2 (rd_T76 xs i).f2.length c2) ∧ (rd_T76 xs i).f2.length ≤ c2 ∧ k114.C w A2 (rd_T76 xs i).f2.length (rd_T76 xs i).f2:=by
  obtain ⟨ad,c,e,_,hK,hc0⟩:=Kd.C_get h z76 i h0 h1
  have hc : ∀ j u,c[j]? = some u → w.cell? (ad.add (i.toNat * 3 + j)) = some u:=hc0
  obtain ⟨A2,c2,rfl,l2,g2⟩:=k76_open hK
  exact ⟨ad,A2,c2,e,hc 0 _ rfl,by rw [← add_field _ _ 1 (by omega)];exact hc 1 _ rfl,by rw [← add_field _ _ 2 (by omega)];exact hc 2 _ rfl,l2,g2⟩
theorem lA_ {α : Type _} (l : List α) (i : Nat) (a : α) : l.toArray.setIfInBounds i a = (l.set i a).toArray:=List.setIfInBounds_toArray l i a
theorem lZ_ {α : Type _} {x a : α} {xs : List α} : (x :: xs).set 0 a = a :: xs:=rfl
theorem lS_ {α : Type _} {x a : α} {xs : List α} {i : Nat} : (x :: xs).set (i + 1) a = x :: xs.set i a:=rfl
theorem bc2 {w : World} {g : Nat} {t : TypeId} {c0 c1 : Value} (h : w.heap[g]? = some (.cells #[c0,c1] t (0,0))) : w.cell? ⟨g,0,none⟩ = some c0 ∧ w.cell? ⟨g,1,none⟩ = some c1 ∧ w.frozen? ⟨g,0,none⟩ = false ∧ w.frozen? ⟨g,1,none⟩ = false:=⟨(blk_cell h 0).trans rfl,(blk_cell h 1).trans rfl,blk_frozen h 0,blk_frozen h 1⟩
theorem bc3 {w : World} {g : Nat} {t : TypeId} {c0 c1 c2 : Value} (h : w.heap[g]? = some (.cells #[c0,c1,c2] t (0,0))) : w.cell? ⟨g,0,none⟩ = some c0 ∧ w.cell? ⟨g,1,none⟩ = some c1 ∧ w.cell? ⟨g,2,none⟩ = some c2 ∧ w.frozen? ⟨g,0,none⟩ = false ∧ w.frozen? ⟨g,1,none⟩ = false ∧ w.frozen? ⟨g,2,none⟩ = false:=⟨(blk_cell h 0).trans rfl,(blk_cell h 1).trans rfl,(blk_cell h 2).trans rfl,blk_frozen h 0,blk_frozen h 1,blk_frozen h 2⟩
theorem bc4 {w : World} {g : Nat} {t : TypeId} {c0 c1 c2 c3 : Value} (h : w.heap[g]? = some (.cells #[c0,c1,c2,c3] t (0,0))) : w.cell? ⟨g,0,none⟩ = some c0 ∧ w.cell? ⟨g,1,none⟩ = some c1 ∧ w.cell? ⟨g,2,none⟩ = some c2 ∧ w.cell? ⟨g,3,none⟩ = some c3 ∧ w.frozen? ⟨g,0,none⟩ = false ∧ w.frozen? ⟨g,1,none⟩ = false ∧ w.frozen? ⟨g,2,none⟩ = false ∧ w.frozen? ⟨g,3,none⟩ = false:=⟨(blk_cell h 0).trans rfl,(blk_cell h 1).trans rfl,(blk_cell h 2).trans rfl,(blk_cell h 3).trans rfl,blk_frozen h 0,blk_frozen h 1,blk_frozen h 2,blk_frozen h 3⟩
theorem bc6 {w : World} {g : Nat} {t : TypeId} {c0 c1 c2 c3 c4 c5 : Value} (h : w.heap[g]? = some (.cells #[c0,c1,c2,c3,c4,c5] t (0,0))) : w.cell? ⟨g,0,none⟩ = some c0 ∧ w.cell? ⟨g,1,none⟩ = some c1 ∧ w.cell? ⟨g,2,none⟩ = some c2 ∧ w.cell? ⟨g,3,none⟩ = some c3 ∧ w.cell? ⟨g,4,none⟩ = some c4 ∧ w.cell? ⟨g,5,none⟩ = some c5 ∧ w.frozen? ⟨g,0,none⟩ = false ∧ w.frozen? ⟨g,1,none⟩ = false ∧ w.frozen? ⟨g,2,none⟩ = false ∧ w.frozen? ⟨g,3,none⟩ = false ∧ w.frozen? ⟨g,4,none⟩ = false ∧ w.frozen? ⟨g,5,none⟩ = false:=⟨(blk_cell h 0).trans rfl,(blk_cell h 1).trans rfl,(blk_cell h 2).trans rfl,(blk_cell h 3).trans rfl,(blk_cell h 4).trans rfl,(blk_cell h 5).trans rfl,blk_frozen h 0,blk_frozen h 1,blk_frozen h 2,blk_frozen h 3,blk_frozen h 4,blk_frozen h 5⟩
theorem bc20 {w : World} {g : Nat} {t : TypeId} {c0 c1 c2 c3 c4 c5 c6 c7 c8 c9 c10 c11 c12 c13 c14 c15 c16 c17 c18 c19 : Value} (h : w.heap[g]? = some (.cells #[c0,c1,c2,c3,c4,c5,c6,c7,c8,c9,c10,c11,c12,c13,c14,c15,c16,c17,c18,c19] t (0,0))) : w.cell? ⟨g,0,none⟩ = some c0 ∧ w.cell? ⟨g,1,none⟩ = some c1 ∧ w.cell? ⟨g,2,none⟩ = some c2 ∧ w.cell? ⟨g,3,none⟩ = some c3 ∧ w.cell? ⟨g,4,none⟩ = some c4 ∧ w.cell? ⟨g,5,none⟩ = some c5 ∧ w.cell? ⟨g,6,none⟩ = some c6 ∧ w.cell? ⟨g,7,none⟩ = some c7 ∧ w.cell? ⟨g,8,none⟩ = some c8 ∧ w.cell? ⟨g,9,none⟩ = some c9 ∧ w.cell? ⟨g,10,none⟩ = some c10 ∧ w.cell? ⟨g,11,none⟩ = some c11 ∧ w.cell? ⟨g,12,none⟩ = some c12 ∧ w.cell? ⟨g,13,none⟩ = some c13 ∧ w.cell? ⟨g,14,none⟩ = some c14 ∧ w.cell? ⟨g,15,none⟩ = some c15 ∧ w.cell? ⟨g,16,none⟩ = some c16 ∧ w.cell? ⟨g,17,none⟩ = some c17 ∧ w.cell? ⟨g,18,none⟩ = some c18 ∧ w.cell? ⟨g,19,none⟩ = some c19 ∧ w.frozen? ⟨g,0,none⟩ = false ∧ w.frozen? ⟨g,1,none⟩ = false ∧ w.frozen? ⟨g,2,none⟩ = false ∧ w.frozen? ⟨g,3,none⟩ = false ∧ w.frozen? ⟨g,4,none⟩ = false ∧ w.frozen? ⟨g,5,none⟩ = false ∧ w.frozen? ⟨g,6,none⟩ = false ∧ w.frozen? ⟨g,7,none⟩ = false ∧ w.frozen? ⟨g,8,none⟩ = false ∧ w.frozen? ⟨g,9,none⟩ = false ∧ w.frozen? ⟨g,10,none⟩ = false ∧ w.frozen? ⟨g,11,none⟩ = false ∧ w.frozen? ⟨g,12,none⟩ = false ∧ w.frozen? ⟨g,13,none⟩ = false ∧ w.frozen? ⟨g,14,none⟩ = false ∧ w.frozen? ⟨g,15,none⟩ = false ∧ w.frozen? ⟨g,16,none⟩ = false ∧ w.frozen? ⟨g,17,none⟩ = false ∧ w.frozen? ⟨g,18,none⟩ = false ∧ w.frozen? ⟨g,19,none⟩ = false:=⟨(blk_cell h 0).trans rfl,(blk_cell h 1).trans rfl,(blk_cell h 2).trans rfl,(blk_cell h 3).trans rfl,(blk_cell h 4).trans rfl,(blk_cell h 5).trans rfl,(blk_cell h 6).trans rfl,(blk_cell h 7).trans rfl,(blk_cell h 8).trans rfl,(blk_cell h 9).trans rfl,(blk_cell h 10).trans rfl,(blk_cell h 11).trans rfl,(blk_cell h 12).trans rfl,(blk_cell h 13).trans rfl,(blk_cell h 14).trans rfl,(blk_cell h 15).trans rfl,(blk_cell h 16).trans rfl,(blk_cell h 17).trans rfl,(blk_cell h 18).trans rfl,(blk_cell h 19).trans rfl,blk_frozen h 0,blk_frozen h 1,blk_frozen h 2,blk_frozen h 3,blk_frozen h 4,blk_frozen h 5,blk_frozen h 6,blk_frozen h 7,blk_frozen h 8,blk_frozen h 9,blk_frozen h 10,blk_frozen h 11,blk_frozen h 12,blk_frozen h 13,blk_frozen h 14,blk_frozen h 15,blk_frozen h 16,blk_frozen h 17,blk_frozen h 18,blk_frozen h 19⟩
theorem fill2 {w : World} {g : Nat} {t : TypeId} {c0 c1 v0 v1 : Value} (h : w.heap[g]? = some (.cells #[c0,c1] t (0,0))) : ((w.setCell ⟨g,0,none⟩ v0).setCell ⟨g,1,none⟩ v1).heap[g]? = some (.cells #[v0,v1] t (0,0)):=(blk_put (cs':=#[v0,v1]) (blk_put (cs':=#[v0,c1]) h 0 v0 rfl) 1 v1 rfl)
theorem fill3 {w : World} {g : Nat} {t : TypeId} {c0 c1 c2 v0 v1 v2 : Value} (h : w.heap[g]? = some (.cells #[c0,c1,c2] t (0,0))) : (((w.setCell ⟨g,0,none⟩ v0).setCell ⟨g,1,none⟩ v1).setCell ⟨g,2,none⟩ v2).heap[g]? = some (.cells #[v0,v1,v2] t (0,0)):=(blk_put (cs':=#[v0,v1,v2]) (blk_put (cs':=#[v0,v1,c2]) (blk_put (cs':=#[v0,c1,c2]) h 0 v0 rfl) 1 v1 rfl) 2 v2 rfl)
theorem fill4 {w : World} {g : Nat} {t : TypeId} {c0 c1 c2 c3 v0 v1 v2 v3 : Value} (h : w.heap[g]? = some (.cells #[c0,c1,c2,c3] t (0,0))) : ((((w.setCell ⟨g,0,none⟩ v0).setCell ⟨g,1,none⟩ v1).setCell ⟨g,2,none⟩ v2).setCell ⟨g,3,none⟩ v3).heap[g]? = some (.cells #[v0,v1,v2,v3] t (0,0)):=(blk_put (cs':=#[v0,v1,v2,v3]) (blk_put (cs':=#[v0,v1,v2,c3]) (blk_put (cs':=#[v0,v1,c2,c3]) (blk_put (cs':=#[v0,c1,c2,c3]) h 0 v0 rfl) 1 v1 rfl) 2 v2 rfl) 3 v3 rfl)
theorem fill6 {w : World} {g : Nat} {t : TypeId} {c0 c1 c2 c3 c4 c5 v0 v1 v2 v3 v4 v5 : Value} (h : w.heap[g]? = some (.cells #[c0,c1,c2,c3,c4,c5] t (0,0))) : ((((((w.setCell ⟨g,0,none⟩ v0).setCell ⟨g,1,none⟩ v1).setCell ⟨g,2,none⟩ v2).setCell ⟨g,3,none⟩ v3).setCell ⟨g,4,none⟩ v4).setCell ⟨g,5,none⟩ v5).heap[g]? = some (.cells #[v0,v1,v2,v3,v4,v5] t (0,0)):=(blk_put (cs':=#[v0,v1,v2,v3,v4,v5]) (blk_put (cs':=#[v0,v1,v2,v3,v4,c5]) (blk_put (cs':=#[v0,v1,v2,v3,c4,c5]) (blk_put (cs':=#[v0,v1,v2,c3,c4,c5]) (blk_put (cs':=#[v0,v1,c2,c3,c4,c5]) (blk_put (cs':=#[v0,c1,c2,c3,c4,c5]) h 0 v0 rfl) 1 v1 rfl) 2 v2 rfl) 3 v3 rfl) 4 v4 rfl) 5 v5 rfl)
theorem rfar3 {α : Type} {d : Kd α} {e base : Nat} {ok : Nat → Prop} {w : World} {g : Nat} {v0 v1 v2 v : Value} {xs : List α} (h : d.R e w base ok v xs) (hok : ∀ k,ok k → k ≠ g) : d.R e (((w.setCell ⟨g,0,none⟩ v0).setCell ⟨g,1,none⟩ v1).setCell ⟨g,2,none⟩ v2) base ok v xs:=(Kd.R_far (p:=⟨g,2,none⟩) (Kd.R_far (p:=⟨g,1,none⟩) (Kd.R_far (p:=⟨g,0,none⟩) h hok v0) hok v1) hok v2)
theorem rfar4 {α : Type} {d : Kd α} {e base : Nat} {ok : Nat → Prop} {w : World} {g : Nat} {v0 v1 v2 v3 v : Value} {xs : List α} (h : d.R e w base ok v xs) (hok : ∀ k,ok k → k ≠ g) : d.R e ((((w.setCell ⟨g,0,none⟩ v0).setCell ⟨g,1,none⟩ v1).setCell ⟨g,2,none⟩ v2).setCell ⟨g,3,none⟩ v3) base ok v xs:=(Kd.R_far (p:=⟨g,3,none⟩) (Kd.R_far (p:=⟨g,2,none⟩) (Kd.R_far (p:=⟨g,1,none⟩) (Kd.R_far (p:=⟨g,0,none⟩) h hok v0) hok v1) hok v2) hok v3)
theorem rfar6 {α : Type} {d : Kd α} {e base : Nat} {ok : Nat → Prop} {w : World} {g : Nat} {v0 v1 v2 v3 v4 v5 v : Value} {xs : List α} (h : d.R e w base ok v xs) (hok : ∀ k,ok k → k ≠ g) : d.R e ((((((w.setCell ⟨g,0,none⟩ v0).setCell ⟨g,1,none⟩ v1).setCell ⟨g,2,none⟩ v2).setCell ⟨g,3,none⟩ v3).setCell ⟨g,4,none⟩ v4).setCell ⟨g,5,none⟩ v5) base ok v xs:=(Kd.R_far (p:=⟨g,5,none⟩) (Kd.R_far (p:=⟨g,4,none⟩) (Kd.R_far (p:=⟨g,3,none⟩) (Kd.R_far (p:=⟨g,2,none⟩) (Kd.R_far (p:=⟨g,1,none⟩) (Kd.R_far (p:=⟨g,0,none⟩) h hok v0) hok v1) hok v2) hok v3) hok v4) hok v5)
theorem goesA_ {P : Program} {ops : Array Oper} {Q : Exit → Act → World → Prop} {rest : List Oper} {oi : Oper} {a : Act} {w : World} (N : Option Tmp) (hd : oi.dst = N) (hg : oi.guard = none) {f : FuncId} {fn : Func} {as_ : Array Operand} {ts : Array TypeId} (hf : P.funcs[f]? = some fn) (hname : (fn.name == "runtime.NumGoroutine") = false) (hb : fn.body.isSome = true) (args : Array Value)
    (hop : oi.op = .call { callee:=.value (.func f),args:=as_,argTypes:=ts })
    (h : Calls P f args w fun e w' => ∃ v,e = .returned v ∧ wpList P ops Q rest (a.put N v) w') (hargs : as_.map a.eval = args:=by (try simp only [List.map_toArray,List.map_cons,List.map_nil]);first | done | rfl | (simp only [List.length_drop,List.length_take];rfl)) : wpList P ops Q (oi :: rest) a w :=
  goesL_ N hd hg hf hname hb args hop hargs h
abbrev rA_:=@Kd.R_alloc
abbrev rD_:=@Kd.R_drew
abbrev rN_:=@Kd.R_drewN
abbrev lA1_:=@below_alloc
abbrev lD_:=@below_drew1
abbrev lS1_:=@below_set
abbrev lP_:=@below_step
abbrev bA_:=@blk_alloc
abbrev bB_:=@blk_below
abbrev bD_:=@blk_drew
abbrev bN_:=@blk_drewN
abbrev bF_:=@blk_far
abbrev kA_:=@keep_alloc
abbrev kD_:=@keep_drew
abbrev kN_:=@keep_drewN
abbrev lN_:=@pw_below_drewN
theorem bS_ {α β : Type} {x : Option α} {f : α → Option β} {r : β} (h : x.bind f = some r) : ∃ t,Aside0 (x = some t) ∧ f t = some r:=by
  obtain ⟨t,a,b⟩:=Option.bind_eq_some_iff.mp h
  exact ⟨t,⟨a⟩,b⟩
theorem iB_ {α : Type} {t : Bool} {x y : Option α} {r : α} (h : (if t = true then x else y) = some r) : t = true ∧ x = some r ∨ t = false ∧ y = some r:=by cases t <;> simp_all
theorem iC_ {α : Type} {p : Prop} {inst : Decidable p} {x y : Option α} {r : α} (h : @ite _ p inst x y = some r) : p ∧ x = some r ∨ ¬ p ∧ y = some r:=by
  by_cases c : p
  · rw [if_pos c] at h;exact Or.inl ⟨c,h⟩
  · rw [if_neg c] at h;exact Or.inr ⟨c,h⟩
theorem iE_ {α : Type} {a b : Int} {inst : Decidable (a = b)} {x y : Option α} {r : α} (h : @ite _ (a = b) inst x y = some r) : (a == b) = true ∧ (a != b) = false ∧ x = some r ∨ (a == b) = false ∧ (a != b) = true ∧ y = some r:=by
  obtain ⟨c,h⟩ | ⟨c,h⟩:=iC_ h
  · exact Or.inl ⟨beq_iff_eq.mpr c,bne_eq_false_iff_eq.mpr c,h⟩
  · exact Or.inr ⟨beq_eq_false_iff_ne.mpr c,bne_iff_ne.mpr c,h⟩
theorem iD_ {α : Type} {p : Prop} {inst : Decidable p} {x y : Option α} {r : α} (h : @ite _ p inst x y = some r) : @decide p inst = true ∧ x = some r ∨ @decide p inst = false ∧ y = some r:=by
  obtain ⟨c,h⟩ | ⟨c,h⟩:=iC_ h
  · exact Or.inl ⟨decide_eq_true c,h⟩
  · exact Or.inr ⟨decide_eq_false c,h⟩
theorem iN_ {α : Type} {p : Prop} {inst : Decidable p} {x : Option α} {r : α} (h : @ite _ p inst x none = some r) : p ∧ x = some r:=by
  obtain ⟨c,h⟩ | ⟨c,h⟩:=iC_ h
  · exact ⟨c,h⟩
  · cases h
theorem iM_ {α : Type} {p : Prop} {inst : Decidable p} {x : Option α} {r : α} (h : @ite _ p inst x none = some r) : @decide p inst = true ∧ x = some r:=⟨decide_eq_true (iN_ h).1,(iN_ h).2⟩
def Bt (n m : Nat) : Array Bool:=⟨(List.range n).map fun i => m.testBit i⟩
theorem Z_ {p : Prop} (h : p) : Aside0 p:=⟨h⟩
theorem Lb_ {P : Prop} (h : P:=by repeat (first | (with_reducible first | exact HB.out | apply lA1_ | apply lN_ | apply lD_ | refine lS1_ ?_ (Aside0.out (by assumption))) | exact HB.out)) : P:=h
theorem Bk_ {P Q : Prop} (a : Aside0 Q) (h : Q → P:=by intro h_;(with_reducible repeat first | apply bN_ | apply bD_ | apply bA_);exact h_) : P:=h a.out
theorem Rk_ {P Q : Prop} (a : Aside0 Q) (h : Q → P:=by intro h_;(with_reducible repeat first | apply rA_ | apply rN_ | apply rD_);exact h_) : P:=h a.out
theorem Sk_ {P Q : Prop} (a : Aside0 Q) (h : Q → P:=by intro h_;(with_reducible repeat (first | apply Kd.S_alloc | apply Kd.S_drewN | apply Kd.S_drew));exact h_) : P:=h a.out
theorem Cb_ {P Q : Prop} (a : Aside0 Q) (h : Q → P:=by intro h_;repeat (first | exact (Kd.C_below h_ HB.out) | (with_reducible refine Kd.C_alloc ?_ _) | (with_reducible refine Kd.C_drewN ?_ _) | (with_reducible refine Kd.C_drew ?_))) : P:=h a.out
theorem Rc_ {P Q : Prop} (a : Aside0 Q) (h : Q → P:=by intro h_;repeat (first | exact (Kd.R_reads' h_).2.2 | (with_reducible refine Kd.C_alloc ?_ _) | (with_reducible refine Kd.C_drewN ?_ _) | (with_reducible refine Kd.C_drew ?_))) : P:=h a.out
theorem Sc_ {P Q : Prop} (a : Aside0 Q) (h : Q → P:=by intro h_;repeat (first | exact (Kd.S_reads' h_).2.2 | (with_reducible refine Kd.C_alloc ?_ _) | (with_reducible refine Kd.C_drewN ?_ _) | (with_reducible refine Kd.C_drew ?_))) : P:=h a.out
theorem Er_ {P : Prop} (h : P:=by first | rfl | (simp [errW_none,errW_some] <;> rfl) | (simp [*,errW_none,errW_some] <;> rfl)) : P:=h
theorem Sr_ {P : Prop} (h : P:=by first | rfl | (simp;done) | (simp [*];done)) : P:=h
theorem Ol_ {P : Prop} (h : P:=by first | omega | exact Nat.le_refl _) : Aside0 P:=⟨h⟩
theorem dA_ {p : Prop} {inst : Decidable p} (h : @decide p inst = true:=by first | (with_reducible assumption) | assumption) : p:=of_decide_eq_true h
theorem cB_ {w w' : World} {p : Addr} {v : Value} (h : Aside0 (Below w.heap.size w w')) (hx : w.cell? p = some v) : w'.cell? p = some v:=(h.out.cell (World.block_lt_of_cell? w _ hx)).trans hx
section
variable {P : Program} {ops : Array Oper} {rest : List Oper} {o : Oper} {a : Act} {Q : Exit → Act → World → Prop}
theorem bx_ {W : World} (cs : Array Value) (t : TypeId) (h : ∀ g,g = W.heap.size → ∀ w1,w1.heap[g]? = some (.cells cs t (0,0)) → Below W.heap.size W w1 → wpList P ops Q rest (a.put o.dst (.pointer (some ⟨g,0,none⟩))) w1) (hgd : o.guard = none:=by rfl) (hrun : (execOp a.eval o).run P W = .ok (.value (.pointer (some ⟨W.heap.size,0,none⟩))) (W.alloc (.cells cs t (0,0))):=by first | (go_simp;done) | (go_simp;rfl)) : wpList P ops Q (o :: rest) a W :=
  Kd.event_run hgd hrun (h _ rfl _ (blk_new W _) (below_alloc (Below.refl _ _) _))
theorem pu_ {S : World → Prop} {md : Region.Mode} {ds : List Nat} {oi : Oper} {v : Value} {fuel : Nat} {l : Array Bool} {w : World} {a' : Act} (i : Nat) (N : Option Tmp) (l' : Array Bool) (hc : anyB md ops l l' i = true) (h : wpAnyLast P md ops Q S ds fuel l' a' w) (hi : ops[i]? = some oi:=by rfl) (hN : oi.dst = N:=by rfl) (hQ : ∀ c a w,Q (.panic c) (a.put oi.dst v) w → Q (.panic c) a w:=by exact fun _ _ _ h => h) (hy : Yields P ops oi v a:=by (refine Or.inl ⟨by rfl,?_⟩;intro w';go_simp;with_reducible rfl)) (ha : a.put N v = a':=by (simp only [Act.put,lA_,lZ_,lS_,i64_w,i32_w];rfl)) : wpAnyLast P md ops Q S ds (fuel + 1) l a w:=pure_ l' hi hN hc hQ hy ha h
theorem ta_ {S : World → Prop} {md : Region.Mode} {ds : List Nat} {oi : Oper} {v : Value} {fuel : Nat} {l : Array Bool} {w : World} {a' : Act} (i : Nat) (N : Option Tmp) (l' : Array Bool) (hc : takeB md ops ds l l' i = true) (hS : S w) (h : wpAnyLast P md ops Q S ds fuel l' a' w) (hi : ops[i]? = some oi:=by rfl) (hN : oi.dst = N:=by rfl) (hQ : ∀ c a w,Q (.panic c) (a.put oi.dst v) w → Q (.panic c) a w:=by exact fun _ _ _ h => h) (hy : YieldsIf P ops S oi v a:=by (refine Or.inl ⟨by rfl,?_⟩;intro w' s_;repeat (have:=And.left s_;replace s_:=And.right s_);go_simp;with_reducible rfl)) (ha : a.put N v = a':=by (simp only [Act.put,lA_,lZ_,lS_,i64_w,i32_w];rfl)) : wpAnyLast P md ops Q S ds (fuel + 1) l a w:=take_ l' hi hN hc hQ hy hS ha h
theorem gD_ {W : World} (N : Tmp) (_hN : o.dst = some N) (h : wpList P ops Q (o :: rest) a W) : wpList P ops Q (o :: rest) a W:=h
end
end Go.Proofs.YtcafikgabidphaaGreat.G
namespace Go.Proofs.YtcafikgabidphaaGreat.G
open Go.RowKit Go.Proofs.YtcafikgabidphaaGreatW.PrintWords Go.Proofs.YtcafikgabidphaaGreatW.PrintLast Go.Proofs.YtcafikgabidphaaGreatW.PrintMore
attribute [local go_sem] max2_int min2_int max_two min_two max_three min_three max_four min_four   -- for this text's walks alone
set_option linter.unusedVariables false
set_option linter.unusedSimpArgs false
def laws_szTermS.f (l0 : List (S85)) (a1 : Int) : Option (Int):=if (wrap64 (a1 - (l0.length : Int))) < 0 then (some (-1)) else (some (wrap64 (a1 - (l0.length : Int))))
set_option maxHeartbeats 8000000 in
set_option maxRecDepth 100000 in
theorem laws_szTermS.calls (A0 : Option Addr) (c0 : Nat) (l0 : List (S85)) (a1 r : Int) (w : World) (hr0 : Kd.C k85 w A0 l0.length l0) (hc0 : l0.length ≤ c0) (h : laws_szTermS.f l0 a1 = some r) :
  Calls Tryz.prog 16 #[.slice A0 l0.length c0,.int .i64 a1] w fun e w' => e = .returned (.int .i64 r) ∧ Drawn0 w w':=by
 have HR0:=Z_ hr0
 have HC0:=Z_ hc0
 clear hr0 hc0
 unfold laws_szTermS.f at h
 have H:=h
 clear h
 replace H:=iD_ H
 obtain ⟨c3b0,H⟩ | ⟨c3b0,H⟩:=H
 all_goals
  obtain rfl:=Option.some.inj H
  go_enter Tryz.func16,Tryz.ntmps16
  go_wp2
  go_ret
  exact ⟨by first | rfl | (simp;done) | (simp [*];done),by repeat (first | exact Drawn0.refl _ | apply Drawn0.step)⟩
def laws_szTalkS.f (l0 : List (S142)) (a1 : Int) : Option (Int):=if (wrap64 (a1 - (l0.length : Int))) < 0 then (some (-1)) else (some (wrap64 (a1 - (l0.length : Int))))
set_option maxHeartbeats 8000000 in
set_option maxRecDepth 100000 in
theorem laws_szTalkS.calls (A0 : Option Addr) (c0 : Nat) (l0 : List (S142)) (a1 r : Int) (w : World) (hr0 : Kd.C k142 w A0 l0.length l0) (hc0 : l0.length ≤ c0) (h : laws_szTalkS.f l0 a1 = some r) :
  Calls Tryz.prog 73 #[.slice A0 l0.length c0,.int .i64 a1] w fun e w' => e = .returned (.int .i64 r) ∧ Drawn0 w w':=by
 have HR0:=Z_ hr0
 have HC0:=Z_ hc0
 clear hr0 hc0
 unfold laws_szTalkS.f at h
 have H:=h
 clear h
 replace H:=iD_ H
 obtain ⟨c3b0,H⟩ | ⟨c3b0,H⟩:=H
 all_goals
  obtain rfl:=Option.some.inj H
  go_enter Tryz.func73,Tryz.ntmps73
  go_wp2
  go_ret
  exact ⟨by first | rfl | (simp;done) | (simp [*];done),by repeat (first | exact Drawn0.refl _ | apply Drawn0.step)⟩
def laws_szGate.f (a0_0 a0_1 : Int) (l0_2 : List (S142)) (a1 : Int) : Option (Int):=(laws_szTalkS.f l0_2 a1).bind fun t102 => (if t102 < 0 then (some (-1)) else (some t102))
set_option maxHeartbeats 8000000 in
set_option maxRecDepth 100000 in
theorem laws_szGate.calls (a0_0 a0_1 : Int) (A0_2 : Option Addr) (c0_2 : Nat) (l0_2 : List (S142)) (a1 r : Int) (w : World) (hr0_2 : Kd.C k142 w A0_2 l0_2.length l0_2) (hc0_2 : l0_2.length ≤ c0_2) (h : laws_szGate.f a0_0 a0_1 l0_2 a1 = some r) :
  Calls Tryz.prog 41 #[.agg #[.int .i64 a0_0,.int .i64 a0_1,.slice A0_2 l0_2.length c0_2],.int .i64 a1] w fun e w' => e = .returned (.int .i64 r) ∧ Below w.heap.size w w':=by
 have hu71:=Tryz.underlying71
 have HR0_2:=Z_ hr0_2
 have HC0_2:=Z_ hc0_2
 clear hr0_2 hc0_2
 have HB:=Z_ (Below.refl w.heap.size w)
 unfold laws_szGate.f at h
 have H:=h
 clear h
 replace H:=bS_ H
 obtain ⟨t102,A3,H⟩:=H
 replace H:=iD_ H
 obtain ⟨c4b0,H⟩ | ⟨c4b0,H⟩:=H
 all_goals
  obtain rfl:=Option.some.inj H
  go_enter Tryz.func41,Tryz.ntmps41
  go_wp2_with (first | ((with_reducible refine gD_ 2 rfl ?_);refine bx_ #[.int .i64 a0_0,.int .i64 a0_1,.slice A0_2 l0_2.length c0_2] 71 ?_;intro gb101 hg w7 hbox hb;have BK101:=Z_ hbox;have GE101:=Z_ ((by rw [hg];exact (below_size Lb_) : w.heap.size ≤ gb101));replace HB:=Z_ (lP_ Lb_ hb);clear hb hbox hg;obtain ⟨_,_,_,_,_,_⟩:=bc3 BK101.out) | ((with_reducible refine gate_callee (f:=73) rfl ?_);refine goesA_ (some 8) rfl rfl Tryz.func73 (by kernel_rfl) rfl #[.slice A0_2 l0_2.length c0_2,.int .i64 a1] rfl ?_;(with_reducible refine (laws_szTalkS.calls _ _ l0_2 a1 t102 _ ?side1 ?side2 A3.out).mono ?_);(case side1 => exact Cb_ HR0_2);(case side2 => exact HC0_2.out);rintro e w' ⟨rfl,⟨nd,rfl⟩⟩;refine ⟨_,rfl,?_⟩))
  go_ret
  exact ⟨Er_,Lb_⟩
def laws_szGateS.l0 : Nat → List (S71) → Int → Int → Option (Int)
 | 0,_,_,_ => none
 | k + 1,x0,x1,x5 => if x5 < (x0.length : Int) then (if 0 ≤ x5 then ((laws_szGate.f ((rd_T71 x0 x5).f0) ((rd_T71 x0 x5).f1) ((rd_T71 x0 x5).f2) x1).bind fun t104 => (if t104 < 0 then (some (-1)) else (laws_szGateS.l0 k x0 t104 (wrap64 (x5 + 1))))) else (none)) else (some x1)
def laws_szGateS.f (k : Nat) (l0 : List (S71)) (a1 : Int) : Option (Int):=if (wrap64 (a1 - (l0.length : Int))) < 0 then (some (-1)) else (laws_szGateS.l0 k l0 (wrap64 (a1 - (l0.length : Int))) 0)
set_option maxHeartbeats 8000000 in
set_option maxRecDepth 100000 in
theorem laws_szGateS.calls (k : Nat) (A0 : Option Addr) (c0 : Nat) (l0 : List (S71)) (a1 r : Int) (w : World) (hr0 : Kd.C k71 w A0 l0.length l0) (hc0 : l0.length ≤ c0) (h : laws_szGateS.f k l0 a1 = some r) :
  Calls Tryz.prog 17 #[.slice A0 l0.length c0,.int .i64 a1] w fun e w' => e = .returned (.int .i64 r) ∧ Below w.heap.size w w':=by
 have hu71:=Tryz.underlying71
 have a0:=Z_ hr0
 have a3:=Z_ hc0
 clear hr0 hc0
 have HB:=Z_ (Below.refl w.heap.size w)
 unfold laws_szGateS.f at h
 have H:=h
 clear h
 replace H:=iC_ H
 obtain ⟨c3,H⟩ | ⟨c3,H⟩:=H
 ·have c3b0 : decide ((wrap64 (a1 - (l0.length : Int))) < 0) = true:=decide_eq_true c3
  clear c3
  obtain rfl:=Option.some.inj H
  go_enter Tryz.func17,Tryz.ntmps17
  go_wp2
  go_ret
  exact ⟨Er_,Lb_⟩
 have c3b0 : decide ((wrap64 (a1 - (l0.length : Int))) < 0) = false:=decide_eq_false c3
 clear c3
 have H':=Z_ H
 clear H
 go_enter Tryz.func17,Tryz.ntmps17
 go_wp2
 go_loopg [1,5] k (fun kq v1 v5 w' => ∃ (x1_1 : Int) (x5_1 : Int),v1 = .int .i64 x1_1 ∧ v5 = .int .i64 x5_1 ∧ Aside0 (laws_szGateS.l0 kq l0 x1_1 x5_1 = some r) ∧ Aside0 (kq ≤ k) ∧ Aside0 (Below w.heap.size w w'))
 case atStart => exact ⟨(wrap64 (a1 - (l0.length : Int))),(0),Sr_,Sr_,H',⟨Nat.le_refl _⟩,⟨Lb_⟩⟩
 case round =>
  clear H'
  try clear c1
  try clear p2
  try clear c3
  try clear c3b0
  obtain ⟨x1_1,x5_1,rfl,rfl,HA,HK1,HB⟩:=hrel
  cases gk with
  | zero => exact absurd HA.out (by simp [laws_szGateS.l0])
  | succ k1 =>
   have H:=HA.out
   clear HA
   simp only [laws_szGateS.l0] at H
   replace H:=iD_ H
   obtain ⟨c4b0,H⟩ | ⟨c4b0,H⟩:=H
   rotate_left
   ·obtain rfl:=Option.some.inj H
    go_wp2
    go_ret
    exact ⟨Er_,Lb_⟩
   rotate_right
   replace H:=iM_ H
   obtain ⟨c5b0,H⟩:=H
   replace H:=bS_ H
   obtain ⟨t104,A6,H⟩:=H
   replace H:=iD_ H
   obtain ⟨c7b0,H⟩ | ⟨c7b0,H⟩:=H
   ·obtain rfl:=Option.some.inj H
    have p103 : 0 ≤ (x5_1 : Int):=dA_
    have q103 : x5_1 < (l0.length : Int):=dA_
    obtain ⟨ad103,A103_2,c103_2,e103,hx103_0,hx103_1,hx103_2,hl103_2,hi103_2⟩:=at_T71 a0.out x5_1 p103 q103
    cases e103
    replace hx103_0:=cB_ HB hx103_0
    replace hx103_1:=cB_ HB hx103_1
    replace hx103_2:=cB_ HB hx103_2
    have HR103_2:=Z_ hi103_2
    have HC103_2:=Z_ hl103_2
    clear hi103_2 hl103_2
    replace p103:=eq_true p103
    replace q103:=eq_true q103
    go_wp2_with (first | ((with_reducible refine gate_callee (f:=41) rfl ?_);refine goesA_ (some 23) rfl rfl Tryz.func41 (by kernel_rfl) rfl #[.agg #[.int .i64 ((rd_T71 l0 x5_1).f0),.int .i64 ((rd_T71 l0 x5_1).f1),.slice A103_2 ((rd_T71 l0 x5_1).f2).length c103_2],.int .i64 x1_1] rfl ?_;(with_reducible refine (laws_szGate.calls ((rd_T71 l0 x5_1).f0) ((rd_T71 l0 x5_1).f1) _ _ ((rd_T71 l0 x5_1).f2) x1_1 t104 _ ?side1 ?side2 A6.out).mono ?_);(case side1 => exact Cb_ HR103_2);(case side2 => exact HC103_2.out);rintro e w8 ⟨rfl,hb⟩;refine ⟨_,rfl,?_⟩;replace HB:=Z_ (lP_ HB.out hb);(try clear hb)))
    go_ret
    exact ⟨Er_,Lb_⟩
   have H':=Z_ H
   clear H
   have p103 : 0 ≤ (x5_1 : Int):=dA_
   have q103 : x5_1 < (l0.length : Int):=dA_
   obtain ⟨ad103,A103_2,c103_2,e103,hx103_0,hx103_1,hx103_2,hl103_2,hi103_2⟩:=at_T71 a0.out x5_1 p103 q103
   cases e103
   replace hx103_0:=cB_ HB hx103_0
   replace hx103_1:=cB_ HB hx103_1
   replace hx103_2:=cB_ HB hx103_2
   have HR103_2:=Z_ hi103_2
   have HC103_2:=Z_ hl103_2
   clear hi103_2 hl103_2
   replace p103:=eq_true p103
   replace q103:=eq_true q103
   go_wp2_with (first | ((with_reducible refine gate_callee (f:=41) rfl ?_);refine goesA_ (some 23) rfl rfl Tryz.func41 (by kernel_rfl) rfl #[.agg #[.int .i64 ((rd_T71 l0 x5_1).f0),.int .i64 ((rd_T71 l0 x5_1).f1),.slice A103_2 ((rd_T71 l0 x5_1).f2).length c103_2],.int .i64 x1_1] rfl ?_;(with_reducible refine (laws_szGate.calls ((rd_T71 l0 x5_1).f0) ((rd_T71 l0 x5_1).f1) _ _ ((rd_T71 l0 x5_1).f2) x1_1 t104 _ ?side1 ?side2 A6.out).mono ?_);(case side1 => exact Cb_ HR103_2);(case side2 => exact HC103_2.out);rintro e w9 ⟨rfl,hb⟩;refine ⟨_,rfl,?_⟩;replace HB:=Z_ (lP_ Lb_ hb);(try clear hb)))
   go_roundg k1
   case measure => have:=HK1.out;omega
   case rel => exact ⟨(t104),(wrap64 (x5_1 + 1)),Sr_,Sr_,H',⟨by have:=HK1.out;omega⟩,⟨Lb_⟩⟩
def laws_szInt64S.f (l0 : List Int) (a1 : Int) : Option (Int):=if (wrap64 (a1 - (l0.length : Int))) < 0 then (some (-1)) else (some (wrap64 (a1 - (l0.length : Int))))
set_option maxHeartbeats 8000000 in
set_option maxRecDepth 100000 in
theorem laws_szInt64S.calls (A0 : Option Addr) (c0 : Nat) (l0 : List Int) (a1 r : Int) (w : World) (hr0 : Kd.C (Kd.int .i64) w A0 l0.length l0) (hc0 : l0.length ≤ c0) (h : laws_szInt64S.f l0 a1 = some r) :
  Calls Tryz.prog 18 #[.slice A0 l0.length c0,.int .i64 a1] w fun e w' => e = .returned (.int .i64 r) ∧ Drawn0 w w':=by
 have HR0:=Z_ hr0
 have HC0:=Z_ hc0
 clear hr0 hc0
 unfold laws_szInt64S.f at h
 have H:=h
 clear h
 replace H:=iD_ H
 obtain ⟨c3b0,H⟩ | ⟨c3b0,H⟩:=H
 all_goals
  obtain rfl:=Option.some.inj H
  go_enter Tryz.func18,Tryz.ntmps18
  go_wp2
  go_ret
  exact ⟨by first | rfl | (simp;done) | (simp [*];done),by repeat (first | exact Drawn0.refl _ | apply Drawn0.step)⟩
def laws_szGivenS.f (l0 : List (S90)) (a1 : Int) : Option (Int):=if (wrap64 (a1 - (l0.length : Int))) < 0 then (some (-1)) else (some (wrap64 (a1 - (l0.length : Int))))
set_option maxHeartbeats 8000000 in
set_option maxRecDepth 100000 in
theorem laws_szGivenS.calls (A0 : Option Addr) (c0 : Nat) (l0 : List (S90)) (a1 r : Int) (w : World) (hr0 : Kd.C k90 w A0 l0.length l0) (hc0 : l0.length ≤ c0) (h : laws_szGivenS.f l0 a1 = some r) :
  Calls Tryz.prog 19 #[.slice A0 l0.length c0,.int .i64 a1] w fun e w' => e = .returned (.int .i64 r) ∧ Drawn0 w w':=by
 have HR0:=Z_ hr0
 have HC0:=Z_ hc0
 clear hr0 hc0
 unfold laws_szGivenS.f at h
 have H:=h
 clear h
 replace H:=iD_ H
 obtain ⟨c3b0,H⟩ | ⟨c3b0,H⟩:=H
 all_goals
  obtain rfl:=Option.some.inj H
  go_enter Tryz.func19,Tryz.ntmps19
  go_wp2
  go_ret
  exact ⟨by first | rfl | (simp;done) | (simp [*];done),by repeat (first | exact Drawn0.refl _ | apply Drawn0.step)⟩
def laws_szNet.f (k : Nat) (l0_0 : List (S85)) (l0_1 : List (S71)) (l0_2 l0_3 : List Int) (l0_4 l0_5 : List (S90)) (a1 : Int) : Option (Int):=(laws_szTermS.f l0_0 a1).bind fun t106 => (if t106 < 0 then (some (-1)) else ((laws_szGateS.f k l0_1 t106).bind fun t107 => (if t107 < 0 then (some (-1)) else ((laws_szInt64S.f l0_2 t107).bind fun t108 => (if t108 < 0 then (some (-1)) else ((laws_szInt64S.f l0_3 t108).bind fun t109 => (if t109 < 0 then (some (-1)) else ((laws_szGivenS.f l0_4 t109).bind fun t110 => (if t110 < 0 then (some (-1)) else ((laws_szGivenS.f l0_5 t110).bind fun t111 => (if t111 < 0 then (some (-1)) else (some t111))))))))))))
set_option maxHeartbeats 8000000 in
set_option maxRecDepth 100000 in
theorem laws_szNet.calls (k : Nat) (A0_0 : Option Addr) (c0_0 : Nat) (l0_0 : List (S85)) (A0_1 : Option Addr) (c0_1 : Nat) (l0_1 : List (S71)) (A0_2 : Option Addr) (c0_2 : Nat) (l0_2 : List Int) (A0_3 : Option Addr) (c0_3 : Nat) (l0_3 : List Int) (A0_4 : Option Addr) (c0_4 : Nat) (l0_4 : List (S90)) (A0_5 : Option Addr) (c0_5 : Nat) (l0_5 : List (S90)) (a1 r : Int) (w : World) (hr0_0 : Kd.C k85 w A0_0 l0_0.length l0_0) (hc0_0 : l0_0.length ≤ c0_0) (hr0_1 : Kd.C k71 w A0_1 l0_1.length l0_1) (hc0_1 : l0_1.length ≤ c0_1) (hr0_2 : Kd.C (Kd.int .i64) w A0_2 l0_2.length l0_2) (hc0_2 : l0_2.length ≤ c0_2) (hr0_3 : Kd.C (Kd.int .i64) w A0_3 l0_3.length l0_3) (hc0_3 : l0_3.length ≤ c0_3) (hr0_4 : Kd.C k90 w A0_4 l0_4.length l0_4) (hc0_4 : l0_4.length ≤ c0_4) (hr0_5 : Kd.C k90 w A0_5 l0_5.length l0_5) (hc0_5 : l0_5.length ≤ c0_5) (h : laws_szNet.f k l0_0 l0_1 l0_2 l0_3 l0_4 l0_5 a1 = some r) :
  Calls Tryz.prog 5 #[.agg #[.slice A0_0 l0_0.length c0_0,.slice A0_1 l0_1.length c0_1,.slice A0_2 l0_2.length c0_2,.slice A0_3 l0_3.length c0_3,.slice A0_4 l0_4.length c0_4,.slice A0_5 l0_5.length c0_5],.int .i64 a1] w fun e w' => e = .returned (.int .i64 r) ∧ Below w.heap.size w w':=by
 have hu27:=Tryz.underlying27
 have HR0_0:=Z_ hr0_0
 have HC0_0:=Z_ hc0_0
 clear hr0_0 hc0_0
 have HR0_1:=Z_ hr0_1
 have HC0_1:=Z_ hc0_1
 clear hr0_1 hc0_1
 have HR0_2:=Z_ hr0_2
 have HC0_2:=Z_ hc0_2
 clear hr0_2 hc0_2
 have HR0_3:=Z_ hr0_3
 have HC0_3:=Z_ hc0_3
 clear hr0_3 hc0_3
 have HR0_4:=Z_ hr0_4
 have HC0_4:=Z_ hc0_4
 clear hr0_4 hc0_4
 have HR0_5:=Z_ hr0_5
 have HC0_5:=Z_ hc0_5
 clear hr0_5 hc0_5
 have HB:=Z_ (Below.refl w.heap.size w)
 unfold laws_szNet.f at h
 have H:=h
 clear h
 replace H:=bS_ H
 obtain ⟨t106,A3,H⟩:=H
 replace H:=iD_ H
 obtain ⟨c4b0,H⟩ | ⟨c4b0,H⟩:=H
 rotate_left
 replace H:=bS_ H
 obtain ⟨t107,A7,H⟩:=H
 replace H:=iD_ H
 obtain ⟨c8b0,H⟩ | ⟨c8b0,H⟩:=H
 rotate_left
 replace H:=bS_ H
 obtain ⟨t108,a5,H⟩:=H
 replace H:=iD_ H
 obtain ⟨c13b0,H⟩ | ⟨c13b0,H⟩:=H
 rotate_left
 replace H:=bS_ H
 obtain ⟨t109,a6,H⟩:=H
 replace H:=iD_ H
 obtain ⟨c19b0,H⟩ | ⟨c19b0,H⟩:=H
 rotate_left
 replace H:=bS_ H
 obtain ⟨t110,aa,H⟩:=H
 replace H:=iD_ H
 obtain ⟨c25b0,H⟩ | ⟨c25b0,H⟩:=H
 rotate_left
 replace H:=bS_ H
 obtain ⟨t111,a4,H⟩:=H
 replace H:=iD_ H
 obtain ⟨c31b0,H⟩ | ⟨c31b0,H⟩:=H
 all_goals
  obtain rfl:=Option.some.inj H
  go_enter Tryz.func5,Tryz.ntmps5
  go_wp2_with (first | ((with_reducible refine gD_ 2 rfl ?_);refine bx_ #[.slice A0_0 l0_0.length c0_0,.slice A0_1 l0_1.length c0_1,.slice A0_2 l0_2.length c0_2,.slice A0_3 l0_3.length c0_3,.slice A0_4 l0_4.length c0_4,.slice A0_5 l0_5.length c0_5] 27 ?_;intro a3 hg w14 hbox hb;have a2:=Z_ hbox;have a0:=Z_ ((by rw [hg];exact (below_size Lb_) : w.heap.size ≤ a3));replace HB:=Z_ (lP_ Lb_ hb);clear hb hbox hg;obtain ⟨_,_,_,_,_,_,_,_,_,_,_,_⟩:=bc6 a2.out) | ((with_reducible refine gate_callee (f:=16) rfl ?_);refine goesA_ (some 8) rfl rfl Tryz.func16 (by kernel_rfl) rfl #[.slice A0_0 l0_0.length c0_0,.int .i64 a1] rfl ?_;(with_reducible refine (laws_szTermS.calls _ _ l0_0 a1 t106 _ ?side1 ?side2 A3.out).mono ?_);(case side1 => exact Cb_ HR0_0);(case side2 => exact HC0_0.out);rintro e w' ⟨rfl,⟨nd,rfl⟩⟩;refine ⟨_,rfl,?_⟩) | ((with_reducible refine gate_callee (f:=17) rfl ?_);refine goesA_ (some 14) rfl rfl Tryz.func17 (by kernel_rfl) rfl #[.slice A0_1 l0_1.length c0_1,.int .i64 t106] rfl ?_;(with_reducible refine (laws_szGateS.calls k _ _ l0_1 t106 t107 _ ?side1 ?side2 A7.out).mono ?_);(case side1 => exact Cb_ HR0_1);(case side2 => exact HC0_1.out);rintro e w16 ⟨rfl,hb⟩;refine ⟨_,rfl,?_⟩;replace a2:=Z_ (bB_ (g:=a3) (o:=.cells #[.slice A0_0 l0_0.length c0_0,.slice A0_1 l0_1.length c0_1,.slice A0_2 l0_2.length c0_2,.slice A0_3 l0_3.length c0_3,.slice A0_4 l0_4.length c0_4,.slice A0_5 l0_5.length c0_5] 27 (0,0)) (Bk_ a2) hb);replace HB:=Z_ (lP_ Lb_ hb);(try clear hb);obtain ⟨_,_,_,_,_,_,_,_,_,_,_,_⟩:=bc6 a2.out) | ((with_reducible refine gate_callee (f:=18) rfl ?_);refine goesA_ (some 20) rfl rfl Tryz.func18 (by kernel_rfl) rfl #[.slice A0_2 l0_2.length c0_2,.int .i64 t107] rfl ?_;(with_reducible refine (laws_szInt64S.calls _ _ l0_2 t107 t108 _ ?side1 ?side2 a5.out).mono ?_);(case side1 => exact Cb_ HR0_2);(case side2 => exact HC0_2.out);rintro e w' ⟨rfl,⟨nd,rfl⟩⟩;refine ⟨_,rfl,?_⟩) | ((with_reducible refine gate_callee (f:=18) rfl ?_);refine goesA_ (some 26) rfl rfl Tryz.func18 (by kernel_rfl) rfl #[.slice A0_3 l0_3.length c0_3,.int .i64 t108] rfl ?_;(with_reducible refine (laws_szInt64S.calls _ _ l0_3 t108 t109 _ ?side1 ?side2 a6.out).mono ?_);(case side1 => exact Cb_ HR0_3);(case side2 => exact HC0_3.out);rintro e w' ⟨rfl,⟨nd,rfl⟩⟩;refine ⟨_,rfl,?_⟩) | ((with_reducible refine gate_callee (f:=19) rfl ?_);refine goesA_ (some 32) rfl rfl Tryz.func19 (by kernel_rfl) rfl #[.slice A0_4 l0_4.length c0_4,.int .i64 t109] rfl ?_;(with_reducible refine (laws_szGivenS.calls _ _ l0_4 t109 t110 _ ?side1 ?side2 aa.out).mono ?_);(case side1 => exact Cb_ HR0_4);(case side2 => exact HC0_4.out);rintro e w' ⟨rfl,⟨nd,rfl⟩⟩;refine ⟨_,rfl,?_⟩) | ((with_reducible refine gate_callee (f:=19) rfl ?_);refine goesA_ (some 38) rfl rfl Tryz.func19 (by kernel_rfl) rfl #[.slice A0_5 l0_5.length c0_5,.int .i64 t110] rfl ?_;(with_reducible refine (laws_szGivenS.calls _ _ l0_5 t110 t111 _ ?side1 ?side2 a4.out).mono ?_);(case side1 => exact Cb_ HR0_5);(case side2 => exact HC0_5.out);rintro e w' ⟨rfl,⟨nd,rfl⟩⟩;refine ⟨_,rfl,?_⟩))
  go_ret
  exact ⟨Er_,Lb_⟩
end Go.Proofs.YtcafikgabidphaaGreat.G
namespace Go.Proofs.YtcafikgabidphaaGreat.G
open Go.RowKit Go.Proofs.YtcafikgabidphaaGreatW.PrintWords Go.Proofs.YtcafikgabidphaaGreatW.PrintLast Go.Proofs.YtcafikgabidphaaGreatW.PrintMore
set_option linter.unusedVariables false
set_option linter.unusedSimpArgs false
theorem rb_put {W W' : World} {base g n c : Nat} {ok : Nat → Prop} {xs : List Bool} {b : Bool} (h : Kd.bool.R 4 W base ok (.slice (some ⟨g, 0, none⟩) n c) xs) (i : Nat) (hw : W' = W.setCell ⟨g, i, none⟩ (.bool b)) : Kd.bool.R 4 W' base ok (.slice (some ⟨g, 0, none⟩) n c) (xs.set i b) ∧ W.grownBy W' (some g) := by
  subst hw
  exact Kd.R_putg h (i : Int) b
theorem rb_get {W : World} {base g n c : Nat} {ok : Nat → Prop} {xs : List Bool} (h : Kd.bool.R 4 W base ok (.slice (some ⟨g, 0, none⟩) n c) xs) (i : Nat) (hi : i < n) : W.cell? ⟨g, i, none⟩ = some (.bool (xs.getD i false)) ∧ W.frozen? ⟨g, i, none⟩ = false := Kd.R_celln false h (i : Int) (by omega) (by omega)
theorem R_set4 {α : Type} {d : Kd α} {e base g t : Nat} {ok : Nat → Prop} {W : World} {v a0 a1 a2 a3 : Value} {xs : List α} {cs : Array Value} (h : d.R e W base ok v xs) (hb : W.heap[g]? = some (.cells cs t (0, 0))) (ht : ∀ q, q ∈ e :: d.E → q ≠ t) : d.R e ((((W.setCell ⟨g, 0, none⟩ a0).setCell ⟨g, 1, none⟩ a1).setCell ⟨g, 2, none⟩ a2).setCell ⟨g, 3, none⟩ a3) base ok v xs :=
  Kd.R_mono (Kd.R_far (p := ⟨g, 3, none⟩) (Kd.R_far (p := ⟨g, 2, none⟩) (Kd.R_far (p := ⟨g, 1, none⟩) (Kd.R_far (p := ⟨g, 0, none⟩) (Kd.R_types h hb ht) (fun _ hk => hk.2) a0) (fun _ hk => hk.2) a1) (fun _ hk => hk.2) a2) (fun _ hk => hk.2) a3) (fun _ hk => hk.1)
theorem bc4H {w : World} {g : Nat} {t : TypeId} {c0 c1 c2 c3 : Value} (h : w.heap[g]? = some (.cells #[c0, c1, c2, c3] t (0, 0))) : w.cell? ⟨g, 0, none⟩ = some c0 ∧ w.cell? ⟨g, 1, none⟩ = some c1 ∧ w.cell? ⟨g, 2, none⟩ = some c2 ∧ w.cell? ⟨g, 3, none⟩ = some c3 ∧ w.frozen? ⟨g, 0, none⟩ = false ∧ w.frozen? ⟨g, 1, none⟩ = false ∧ w.frozen? ⟨g, 2, none⟩ = false ∧ w.frozen? ⟨g, 3, none⟩ = false := ⟨(blk_cell h 0).trans rfl, (blk_cell h 1).trans rfl, (blk_cell h 2).trans rfl, (blk_cell h 3).trans rfl, blk_frozen h 0, blk_frozen h 1, blk_frozen h 2, blk_frozen h 3⟩
theorem w64k {n : Int} (h0 : -9223372036854775808 ≤ n) (h1 : n ≤ 9223372036854775807) : wrap64 n = n := by unfold wrap64; omega
theorem getD_setH {O : List Bool} {k : Nat} (b : Bool) (h : k < O.length) : (O.set k b).getD k false = b := by simp [List.getD, h]
theorem stH {P : Program} {ops : Array Oper} {rest : List Oper} {o : Oper} {a : Act} {Q : Exit → Act → World → Prop} {W w1 : World} {p : Tmp} {v : Operand} (t : TypeId) (h : ∀ w', w' = w1 → wpList P ops Q rest a w') (hgd : o.guard = none := by rfl) (ho : o.op = .store t (.tmp p) v := by rfl) (hN : o.dst = none := by rfl) (hrun : (execOp a.eval o).run P W = .ok .skip w1 := by first | (go_simp; done) | (go_simp; rfl)) : wpList P ops Q (o :: rest) a W := store_event hgd ho hN hrun h
theorem wf_of_place {x : Int} {n : Nat} (h0 : 0 ≤ x) (h1 : x < (n : Int)) (hn : n ≤ 400) : (Lit.int .i64 x).wf = true := by simp [Lit.wf, IntKind.min, IntKind.max, IntKind.signed, IntKind.bits]; omega
theorem eqTH {a b : Int} (h : a = b) : (a == b) = true ∧ (a != b) = false ∧ decide (a = b) = true := by simp [h]
theorem eqFH {a b : Int} (h : ¬ a = b) : (a == b) = false ∧ (a != b) = true ∧ decide (a = b) = false := by simp [h]
theorem kt_get (l : List S83) (kk : Nat) (h : kk < l.length) : l.drop kk = rd_T83 l (kk : Int) :: l.drop (kk + 1) := by
  rw [List.drop_eq_getElem_cons h]
  simp [rd_T83, List.getD, List.getElem?_eq_getElem h]
end Go.Proofs.YtcafikgabidphaaGreat.G
namespace Go.Proofs.YtcafikgabidphaaGreat.G
open Go.RowKit Go.Proofs.YtcafikgabidphaaGreatW.PrintWords Go.Proofs.YtcafikgabidphaaGreatW.PrintLast Go.Proofs.YtcafikgabidphaaGreatW.PrintMore
attribute [local go_sem] max2_int min2_int max_two min_two max_three min_three max_four min_four   -- for this text's walks alone
set_option linter.unusedVariables false
set_option linter.unusedSimpArgs false
def spec_l1In.f (a0 a1 a2 : Int) : Option (Bool):=if a0 ≥ a1 then (some (decide (a0 ≤ a2))) else (some false)
set_option maxHeartbeats 8000000 in
set_option maxRecDepth 100000 in
theorem spec_l1In.calls (a0 a1 a2 : Int) (r : Bool) (w : World) (h : spec_l1In.f a0 a1 a2 = some r) :
  Calls Tryz.prog 47 #[.int .i64 a0,.int .i64 a1,.int .i64 a2] w fun e w' => e = .returned (.bool r) ∧ Drawn0 w w':=by
 unfold spec_l1In.f at h
 have H:=h
 clear h
 replace H:=iD_ H
 obtain ⟨c4b0,H⟩ | ⟨c4b0,H⟩:=H
 rotate_left
 focus replace c4b0 : decide (a1 ≤ a0) = false:=c4b0
 rotate_right
 replace c4b0 : decide (a1 ≤ a0) = true:=c4b0
 all_goals
  obtain rfl:=Option.some.inj H
  go_enter Tryz.func47,Tryz.ntmps47
  go_wp2
  go_ret
  exact ⟨by first | rfl | (simp;done) | (simp [*];done),by repeat (first | exact Drawn0.refl _ | apply Drawn0.step)⟩
def spec_l5At.f (l0 : List (S83)) (a1 : Int) : Option (Bool):=(spec_l1In.f a1 0 (wrap64 ((l0.length : Int) - 1))).bind fun t135 => (some t135)
set_option maxHeartbeats 8000000 in
set_option maxRecDepth 100000 in
theorem spec_l5At.calls (A0 : Option Addr) (c0 : Nat) (l0 : List (S83)) (a1 : Int) (r : Bool) (w : World) (hr0 : Kd.C k83 w A0 l0.length l0) (hc0 : l0.length ≤ c0) (h : spec_l5At.f l0 a1 = some r) :
  Calls Tryz.prog 21 #[.slice A0 l0.length c0,.int .i64 a1] w fun e w' => e = .returned (.bool r) ∧ Drawn0 w w':=by
 have HR0:=Z_ hr0
 have HC0:=Z_ hc0
 clear hr0 hc0
 unfold spec_l5At.f at h
 have H:=h
 clear h
 replace H:=bS_ H
 obtain ⟨t135,A3,H⟩:=H
 obtain rfl:=Option.some.inj H
 go_enter Tryz.func21,Tryz.ntmps21
 go_wp2_with (first | ((with_reducible refine gate_callee (f:=47) rfl ?_);refine goesA_ (some 9) rfl rfl Tryz.func47 (by kernel_rfl) rfl #[.int .i64 a1,.int .i64 0,.int .i64 (wrap64 ((l0.length : Int) - 1))] rfl ?_;(with_reducible refine (spec_l1In.calls a1 0 (wrap64 ((l0.length : Int) - 1)) t135 _ A3.out).mono ?_);rintro e w' ⟨rfl,⟨nd,rfl⟩⟩;refine ⟨_,rfl,?_⟩))
 go_ret
 exact ⟨by first | rfl | (simp;done) | (simp [*];done),by repeat (first | exact Drawn0.refl _ | apply Drawn0.step)⟩
def spec_l5Kids.j0 : Nat → Int → Bool → Option (Int)
 | 0,_,_ => none
 | k + 1,x3,x4 => if x4 = true then (some 2) else (if x3 = 6 then (some 1) else (some 0))
def spec_l5Kids.f (k : Nat) (a0 : Int) : Option (Int):=if a0 = 3 then (spec_l5Kids.j0 k a0 (a0 == 3)) else (if a0 = 4 then (spec_l5Kids.j0 k a0 (a0 == 4)) else (if a0 = 5 then (spec_l5Kids.j0 k a0 (a0 == 5)) else (spec_l5Kids.j0 k a0 (a0 == 7))))
set_option maxHeartbeats 8000000 in
set_option maxRecDepth 100000 in
theorem spec_l5Kids.calls (k : Nat) (a0 r : Int) (w : World) (h : spec_l5Kids.f k a0 = some r) :
  Calls Tryz.prog 91 #[.int .i64 a0] w fun e w' => e = .returned (.int .i64 r) ∧ Drawn0 w w':=by
 unfold spec_l5Kids.f at h
 have H:=h
 clear h
 have HC2:=Z_ H
 clear H
 go_enter Tryz.func91,Tryz.ntmps91
 go_upto_if 4 with (fail)
 go_cut [4] (fun v4 wc => ∃ (kq : Nat) (x4_1 : Bool),v4 = .bool x4_1 ∧ Aside0 (spec_l5Kids.j0 kq a0 x4_1 = some r) ∧ Aside0 (kq ≤ k) ∧ Drawn0 w wc)
 case first =>
  have H:=HC2.out
  clear HC2
  replace H:=iE_ H
  obtain ⟨c3b0,c3b1,H⟩ | ⟨c3b0,c3b1,H⟩:=H
  focus (first | rw [c3b0] | (simp only [i64_w,i32_w];rw [c3b0]) | skip)
  rotate_left
  (first | rw [c3b0] | (simp only [i64_w,i32_w];rw [c3b0]) | skip)
  replace H:=iE_ H
  obtain ⟨c4b0,c4b1,H⟩ | ⟨c4b0,c4b1,H⟩:=H
  rotate_left
  replace H:=iE_ H
  obtain ⟨c5b0,c5b1,H⟩ | ⟨c5b0,c5b1,H⟩:=H
  all_goals
   have H':=Z_ H
   clear H
   go_wp2
   go_meet
   case rel => exact ⟨_,_,Sr_,H',Ol_,by repeat (first | exact Drawn0.refl _ | apply Drawn0.step)⟩
 case rest =>
  clear HC2
  try clear p2
  try clear c3
  try clear c3b0
  try clear c3b1
  try clear c4
  try clear c4b0
  try clear c4b1
  try clear c5
  try clear c5b0
  try clear c5b1
  obtain ⟨kq,x4_1,rfl,HA,HJ1,⟨mc1,rfl⟩⟩:=hcut
  cases kq with
  | zero => exact absurd HA.out (by simp [spec_l5Kids.j0])
  | succ kj1 =>
   have H:=HA.out
   clear HA
   simp only [spec_l5Kids.j0] at H
   replace H:=iB_ H
   obtain ⟨rfl,H⟩ | ⟨rfl,H⟩:=H
   rotate_left
   replace H:=iE_ H
   obtain ⟨c7b0,c7b1,H⟩ | ⟨c7b0,c7b1,H⟩:=H
   all_goals
    obtain rfl:=Option.some.inj H
    go_wp2
    go_ret
    exact ⟨by first | rfl | (simp;done) | (simp [*];done),by repeat (first | exact Drawn0.refl _ | apply Drawn0.step)⟩
mutual
def spec_l5Term.j0 : Nat → List (S83) → Int → Bool → Int → Int → Int → Int → Option (Int)
 | 0,_,_,_,_,_,_,_ => none
 | k + 1,x0,x5,x38,x113000,x113001,x113002,x113003 => if x38 = true then (some 1) else ((spec_l1In.f x113003 0 9999).bind fun t115 => (if t115 = true then (if x5 > 0 then ((spec_l1In.f x113001 0 (wrap64 ((x0.length : Int) - 1))).bind fun t116 => (if t116 = true then (if x5 > 1 then ((spec_l1In.f x113002 0 (wrap64 ((x0.length : Int) - 1))).bind fun t117 => (spec_l5Term.j1 k x0 x5 (!t117) x113000 x113001 x113002 x113003)) else (spec_l5Term.j1 k x0 x5 false x113000 x113001 x113002 x113003)) else (spec_l5Term.j1 k x0 x5 true x113000 x113001 x113002 x113003))) else (if x5 > 1 then ((spec_l1In.f x113002 0 (wrap64 ((x0.length : Int) - 1))).bind fun t118 => (spec_l5Term.j1 k x0 x5 (!t118) x113000 x113001 x113002 x113003)) else (spec_l5Term.j1 k x0 x5 false x113000 x113001 x113002 x113003))) else (spec_l5Term.j1 k x0 x5 true x113000 x113001 x113002 x113003)))
def spec_l5Term.j1 : Nat → List (S83) → Int → Bool → Int → Int → Int → Int → Option (Int)
 | 0,_,_,_,_,_,_,_ => none
 | k + 1,x0,x5,x68,x113000,x113001,x113002,x113003 => if x68 = true then (some 3) else (if x113000 = 6 then (spec_l5Term.j2 k x0 x5 true x113000 x113001 x113002 x113003) else (spec_l5Term.j2 k x0 x5 (x113000 == 7) x113000 x113001 x113002 x113003))
def spec_l5Term.j2 : Nat → List (S83) → Int → Bool → Int → Int → Int → Int → Option (Int)
 | 0,_,_,_,_,_,_,_ => none
 | k + 1,x0,x5,x76,x113000,x113001,x113002,x113003 => if x76 = true then (if 0 ≤ x113001 then (if x113001 < (x0.length : Int) then (if ((rd_T83 x0 x113001).f0) = 2 then (if x5 > 1 then (if 0 ≤ x113002 then (if x113002 < (x0.length : Int) then (if ((rd_T83 x0 x113002).f0) = 2 then (if x113001 > x113002 then (some 1) else (some 0)) else (some 1)) else (none)) else (none)) else (some 0)) else (some 1)) else (none)) else (none)) else (some 0)
end
def spec_l5Term.f (k : Nat) (l0 : List (S83)) (a1_0 a1_1 a1_2 a1_3 : Int) : Option (Int):=(spec_l1In.f a1_0 1 7).bind fun t113 => (if t113 = true then ((spec_l5Kids.f k a1_0).bind fun t114 => (if t114 > 0 then (if a1_3 = 0 then (if t114 < 1 then (if a1_1 = 0 then (if t114 < 2 then (spec_l5Term.j0 k l0 t114 (a1_2 != 0) a1_0 a1_1 a1_2 a1_3) else (spec_l5Term.j0 k l0 t114 false a1_0 a1_1 a1_2 a1_3)) else (spec_l5Term.j0 k l0 t114 true a1_0 a1_1 a1_2 a1_3)) else (if t114 < 2 then (spec_l5Term.j0 k l0 t114 (a1_2 != 0) a1_0 a1_1 a1_2 a1_3) else (spec_l5Term.j0 k l0 t114 false a1_0 a1_1 a1_2 a1_3))) else (spec_l5Term.j0 k l0 t114 true a1_0 a1_1 a1_2 a1_3)) else (if t114 < 1 then (if a1_1 = 0 then (if t114 < 2 then (spec_l5Term.j0 k l0 t114 (a1_2 != 0) a1_0 a1_1 a1_2 a1_3) else (spec_l5Term.j0 k l0 t114 false a1_0 a1_1 a1_2 a1_3)) else (spec_l5Term.j0 k l0 t114 true a1_0 a1_1 a1_2 a1_3)) else (if t114 < 2 then (spec_l5Term.j0 k l0 t114 (a1_2 != 0) a1_0 a1_1 a1_2 a1_3) else (spec_l5Term.j0 k l0 t114 false a1_0 a1_1 a1_2 a1_3))))) else (some 5))
set_option maxHeartbeats 8000000 in
set_option maxRecDepth 100000 in
theorem spec_l5Term.calls (k : Nat) (A0 : Option Addr) (c0 : Nat) (l0 : List (S83)) (a1_0 a1_1 a1_2 a1_3 r : Int) (w : World) (hr0 : Kd.C k83 w A0 l0.length l0) (hc0 : l0.length ≤ c0) (h : spec_l5Term.f k l0 a1_0 a1_1 a1_2 a1_3 = some r) :
  Calls Tryz.prog 74 #[.slice A0 l0.length c0,.agg #[.int .i64 a1_0,.int .i64 a1_1,.int .i64 a1_2,.int .i64 a1_3]] w fun e w' => e = .returned (.int .i64 r) ∧ Below w.heap.size w w':=by
 have hu83:=Tryz.underlying83
 have a3:=Z_ hr0
 have ai:=Z_ hc0
 clear hr0 hc0
 have HB:=Z_ (Below.refl w.heap.size w)
 unfold spec_l5Term.f at h
 have H:=h
 clear h
 replace H:=bS_ H
 obtain ⟨t113,A3,H⟩:=H
 replace H:=iB_ H
 obtain ⟨rfl,H⟩ | ⟨rfl,H⟩:=H
 rotate_left
 ·obtain rfl:=Option.some.inj H
  go_enter Tryz.func74,Tryz.ntmps74
  go_wp2_with (first | ((with_reducible refine gD_ 3 rfl ?_);refine bx_ #[.int .i64 a1_0,.int .i64 a1_1,.int .i64 a1_2,.int .i64 a1_3] 83 ?_;intro a2 hg w65 hbox hb;have a0:=Z_ hbox;have a1:=Z_ ((by rw [hg];exact (below_size Lb_) : w.heap.size ≤ a2));replace HB:=Z_ (lP_ Lb_ hb);clear hb hbox hg;obtain ⟨_,_,_,_,_,_,_,_⟩:=bc4 a0.out) | ((with_reducible refine gate_callee (f:=47) rfl ?_);refine goesA_ (some 9) rfl rfl Tryz.func47 (by kernel_rfl) rfl #[.int .i64 a1_0,.int .i64 1,.int .i64 7] rfl ?_;(with_reducible refine (spec_l1In.calls a1_0 1 7 false _ A3.out).mono ?_);rintro e w' ⟨rfl,⟨nd,rfl⟩⟩;refine ⟨_,rfl,?_⟩))
  go_ret
  exact ⟨Er_,Lb_⟩
 rotate_right
 replace H:=bS_ H
 obtain ⟨t114,A5,H⟩:=H
 have a7:=Z_ H
 clear H
 go_enter Tryz.func74,Tryz.ntmps74
 go_upto_region 4 with (first | ((with_reducible refine gD_ 3 rfl ?_);refine bx_ #[.int .i64 a1_0,.int .i64 a1_1,.int .i64 a1_2,.int .i64 a1_3] 83 ?_;intro a2 hg w7 hbox hb;have a0:=Z_ hbox;have ah:=Z_ ((by rw [hg];exact (below_size Lb_) : w.heap.size ≤ a2));have a1:=Z_ ((by rw [hg];exact (below_size Lb_) : w.heap.size ≤ a2));replace HB:=Z_ (lP_ Lb_ hb);clear hb hbox hg;obtain ⟨_,_,_,_,_,_,_,_⟩:=bc4 a0.out) | ((with_reducible refine gate_callee (f:=47) rfl ?_);refine goesA_ (some 9) rfl rfl Tryz.func47 (by kernel_rfl) rfl #[.int .i64 a1_0,.int .i64 1,.int .i64 7] rfl ?_;(with_reducible refine (spec_l1In.calls a1_0 1 7 true _ A3.out).mono ?_);rintro e w' ⟨rfl,⟨nd,rfl⟩⟩;refine ⟨_,rfl,?_⟩) | ((with_reducible refine gate_callee (f:=91) rfl ?_);refine goesA_ (some 13) rfl rfl Tryz.func91 (by kernel_rfl) rfl #[.int .i64 a1_0] rfl ?_;(with_reducible refine (spec_l5Kids.calls k a1_0 t114 _ A5.out).mono ?_);rintro e w' ⟨rfl,⟨nd,rfl⟩⟩;refine ⟨_,rfl,?_⟩))
 (try simp only [Act.put,lA_,lZ_,lS_])
 go_cut [38] (fun v38 wc => ∃ (kq : Nat) (x38_5 : Bool),v38 = .bool x38_5 ∧ Aside0 (spec_l5Term.j0 kq l0 t114 x38_5 a1_0 a1_1 a1_2 a1_3 = some r) ∧ Aside0 (kq ≤ k) ∧ Aside0 (wc.heap[a2]? = some (.cells #[.int .i64 a1_0,.int .i64 a1_1,.int .i64 a1_2,.int .i64 a1_3] 83 (0,0))) ∧ Aside0 (Below w.heap.size w wc))
 case first =>
  have H:=a7.out
  clear a7
  replace H:=iD_ H
  obtain ⟨c9b0,H⟩ | ⟨c9b0,H⟩:=H
  rotate_left
  focus
   replace c9b0 : decide (0 < t114) = false:=c9b0
   (first | rw [c9b0] | (simp only [i64_w,i32_w];rw [c9b0]) | skip)
   replace H:=iD_ H
   obtain ⟨c21b0,H⟩ | ⟨c21b0,H⟩:=H
   rotate_left
   focus
    replace H:=iD_ H
    obtain ⟨c27b0,H⟩ | ⟨c27b0,H⟩:=H
   rotate_right
   replace H:=iE_ H
   obtain ⟨c22b0,c22b1,H⟩ | ⟨c22b0,c22b1,H⟩:=H
   replace H:=iD_ H
   obtain ⟨c23b0,H⟩ | ⟨c23b0,H⟩:=H
  rotate_right
  replace c9b0 : decide (0 < t114) = true:=c9b0
  (first | rw [c9b0] | (simp only [i64_w,i32_w];rw [c9b0]) | skip)
  replace H:=iE_ H
  obtain ⟨c10b0,c10b1,H⟩ | ⟨c10b0,c10b1,H⟩:=H
  replace H:=iD_ H
  obtain ⟨c11b0,H⟩ | ⟨c11b0,H⟩:=H
  rotate_left
  focus
   replace H:=iD_ H
   obtain ⟨c17b0,H⟩ | ⟨c17b0,H⟩:=H
  rotate_right
  replace H:=iE_ H
  obtain ⟨c12b0,c12b1,H⟩ | ⟨c12b0,c12b1,H⟩:=H
  replace H:=iD_ H
  obtain ⟨c13b0,H⟩ | ⟨c13b0,H⟩:=H
  all_goals
   have H':=Z_ H
   clear H
   try obtain ⟨_,_,_,_,_,_,_,_⟩:=bc4 a0.out
   go_wp2
   go_meet
   case rel => exact ⟨_,_,Sr_,H',Ol_,⟨Bk_ a0⟩,⟨Lb_⟩⟩
 case rest =>
  clear a7
  try clear c1
  try clear c2
  try clear p2
  try clear c4
  try clear c7
  try clear c9
  try clear c9b0
  try clear c10
  try clear c10b0
  try clear c10b1
  try clear c11
  try clear c11b0
  try clear c12
  try clear c12b0
  try clear c12b1
  try clear c13
  try clear c13b0
  try clear c17
  try clear c17b0
  try clear c21
  try clear c21b0
  try clear c22
  try clear c22b0
  try clear c22b1
  try clear c23
  try clear c23b0
  try clear c27
  try clear c27b0
  obtain ⟨kq,x38_5,rfl,HA,HJ5,a0,HB⟩:=hcut
  cases kq with
  | zero => exact absurd HA.out (by simp [spec_l5Term.j0])
  | succ kj5 =>
   have H:=HA.out
   clear HA
   simp only [spec_l5Term.j0] at H
   replace H:=iB_ H
   obtain ⟨rfl,H⟩ | ⟨rfl,H⟩:=H
   ·obtain rfl:=Option.some.inj H
    go_wp2
    go_ret
    exact ⟨Er_,Lb_⟩
   have a5:=Z_ H
   clear H
   go_upto_region 7 with (fail)
   go_cut [68] (fun v68 wc => ∃ (kq : Nat) (x68_29 : Bool),v68 = .bool x68_29 ∧ Aside0 (spec_l5Term.j1 kq l0 t114 x68_29 a1_0 a1_1 a1_2 a1_3 = some r) ∧ Aside0 (kq ≤ kj5) ∧ Aside0 (wc.heap[a2]? = some (.cells #[.int .i64 a1_0,.int .i64 a1_1,.int .i64 a1_2,.int .i64 a1_3] 83 (0,0))) ∧ Aside0 (Below w.heap.size w wc))
   case first =>
    have H:=a5.out
    clear a5
    replace H:=bS_ H
    obtain ⟨t115,a4,H⟩:=H
    replace H:=iB_ H
    obtain ⟨rfl,H⟩ | ⟨rfl,H⟩:=H
    replace H:=iD_ H
    obtain ⟨c33b0,H⟩ | ⟨c33b0,H⟩:=H
    rotate_left
    focus
     replace c33b0 : decide (0 < t114) = false:=c33b0
     (first | rw [c33b0] | (simp only [i64_w,i32_w];rw [c33b0]) | skip)
     replace H:=iD_ H
     obtain ⟨c41b0,H⟩ | ⟨c41b0,H⟩:=H
     rotate_left
     focus replace c41b0 : decide (1 < t114) = false:=c41b0
     rotate_right
     replace c41b0 : decide (1 < t114) = true:=c41b0
     replace H:=bS_ H
     obtain ⟨t118,ag,H⟩:=H
    rotate_right
    replace c33b0 : decide (0 < t114) = true:=c33b0
    (first | rw [c33b0] | (simp only [i64_w,i32_w];rw [c33b0]) | skip)
    replace H:=bS_ H
    obtain ⟨t116,aa,H⟩:=H
    replace H:=iB_ H
    obtain ⟨rfl,H⟩ | ⟨rfl,H⟩:=H
    replace H:=iD_ H
    obtain ⟨c36b0,H⟩ | ⟨c36b0,H⟩:=H
    rotate_left
    focus replace c36b0 : decide (1 < t114) = false:=c36b0
    rotate_right
    replace c36b0 : decide (1 < t114) = true:=c36b0
    replace H:=bS_ H
    obtain ⟨t117,af,H⟩:=H
    all_goals
     have H':=Z_ H
     clear H
     obtain ⟨_,_,_,_,_,_,_,_⟩:=bc4 a0.out
     go_wp2_with (first | ((with_reducible refine gate_callee (f:=47) rfl ?_);refine goesA_ (some 43) rfl rfl Tryz.func47 (by kernel_rfl) rfl #[.int .i64 a1_3,.int .i64 0,.int .i64 9999] rfl ?_;(with_reducible refine (spec_l1In.calls a1_3 0 9999 _ _ a4.out).mono ?_);rintro e w' ⟨rfl,⟨nd,rfl⟩⟩;refine ⟨_,rfl,?_⟩) | (go_at_call 47;(with_reducible refine (spec_l1In.calls a1_1 0 (wrap64 ((l0.length : Int) - 1)) _ _ aa.out).mono ?_);rintro e w' ⟨rfl,⟨nd,rfl⟩⟩) | (go_at_call 47;(with_reducible refine (spec_l1In.calls a1_2 0 (wrap64 ((l0.length : Int) - 1)) t117 _ af.out).mono ?_);rintro e w' ⟨rfl,⟨nd,rfl⟩⟩) | (go_at_call 47;(with_reducible refine (spec_l1In.calls a1_2 0 (wrap64 ((l0.length : Int) - 1)) t118 _ ag.out).mono ?_);rintro e w' ⟨rfl,⟨nd,rfl⟩⟩))
     go_meet
     case rel => exact ⟨_,_,Sr_,H',⟨by have:=HJ5.out;first | omega | exact Nat.le_refl _⟩,⟨Bk_ a0⟩,⟨Lb_⟩⟩
   case rest =>
    clear a5
    try clear c1
    try clear c2
    try clear p2
    try clear c3
    try clear c4
    try clear p6
    try clear c7
    try clear c9
    try clear c9b0
    try clear c10
    try clear c10b0
    try clear c10b1
    try clear c11
    try clear c11b0
    try clear c12
    try clear c12b0
    try clear c12b1
    try clear c13
    try clear c13b0
    try clear c17
    try clear c17b0
    try clear c21
    try clear c21b0
    try clear c22
    try clear c22b0
    try clear c22b1
    try clear c23
    try clear c23b0
    try clear c27
    try clear c27b0
    try clear c29
    try clear c32
    try clear c33
    try clear c33b0
    try clear c35
    try clear c36
    try clear c36b0
    try clear c41
    try clear c41b0
    try clear p2
    obtain ⟨kq,x68_29,rfl,HA,HJ29,a0,HB⟩:=hcut
    cases kq with
    | zero => exact absurd HA.out (by simp [spec_l5Term.j1])
    | succ kj29 =>
     have H:=HA.out
     clear HA
     simp only [spec_l5Term.j1] at H
     replace H:=iB_ H
     obtain ⟨rfl,H⟩ | ⟨rfl,H⟩:=H
     ·obtain rfl:=Option.some.inj H
      go_wp2
      go_ret
      exact ⟨Er_,Lb_⟩
     have a6:=Z_ H
     clear H
     go_upto_region 9 with (fail)
     go_cut [76] (fun v76 wc => ∃ (kq : Nat) (x76_46 : Bool),v76 = .bool x76_46 ∧ Aside0 (spec_l5Term.j2 kq l0 t114 x76_46 a1_0 a1_1 a1_2 a1_3 = some r) ∧ Aside0 (kq ≤ kj29) ∧ Aside0 (wc.heap[a2]? = some (.cells #[.int .i64 a1_0,.int .i64 a1_1,.int .i64 a1_2,.int .i64 a1_3] 83 (0,0))) ∧ Aside0 (Below w.heap.size w wc))
     case first =>
      have H:=a6.out
      clear a6
      replace H:=iE_ H
      obtain ⟨c48b0,c48b1,H⟩ | ⟨c48b0,c48b1,H⟩:=H
      all_goals
       (first | rw [c48b0] | (simp only [i64_w,i32_w];rw [c48b0]) | skip)
       have H':=Z_ H
       clear H
       obtain ⟨_,_,_,_,_,_,_,_⟩:=bc4 a0.out
       go_wp2
       go_meet
       case rel => exact ⟨_,_,Sr_,H',⟨by have:=HJ5.out;have:=HJ29.out;first | omega | exact Nat.le_refl _⟩,⟨Bk_ a0⟩,⟨Lb_⟩⟩
     case rest =>
      clear a6
      try clear c1
      try clear c2
      try clear p2
      try clear c3
      try clear c4
      try clear p6
      try clear c7
      try clear c9
      try clear c9b0
      try clear c10
      try clear c10b0
      try clear c10b1
      try clear c11
      try clear c11b0
      try clear c12
      try clear c12b0
      try clear c12b1
      try clear c13
      try clear c13b0
      try clear c17
      try clear c17b0
      try clear c21
      try clear c21b0
      try clear c22
      try clear c22b0
      try clear c22b1
      try clear c23
      try clear c23b0
      try clear c27
      try clear c27b0
      try clear c29
      try clear c32
      try clear c33
      try clear c33b0
      try clear c35
      try clear c36
      try clear c36b0
      try clear c41
      try clear c41b0
      try clear c46
      try clear c47
      try clear c48
      try clear c48b0
      try clear c48b1
      try clear p2
      try clear p6
      obtain ⟨kq,x76_46,rfl,HA,HJ46,a0,HB⟩:=hcut
      cases kq with
      | zero => exact absurd HA.out (by simp [spec_l5Term.j2])
      | succ kj46 =>
       have H:=HA.out
       clear HA
       simp only [spec_l5Term.j2] at H
       replace H:=iB_ H
       obtain ⟨rfl,H⟩ | ⟨rfl,H⟩:=H
       rotate_left
       ·obtain rfl:=Option.some.inj H
        go_wp2
        go_ret
        exact ⟨Er_,Lb_⟩
       rotate_right
       replace H:=iM_ H
       obtain ⟨c52b0,H⟩:=H
       replace H:=iM_ H
       obtain ⟨c53b0,H⟩:=H
       replace H:=iE_ H
       obtain ⟨c54b0,c54b1,H⟩ | ⟨c54b0,c54b1,H⟩:=H
       rotate_left
       focus have g1_:=trivial
       rotate_right
       replace H:=iD_ H
       obtain ⟨c55b0,H⟩ | ⟨c55b0,H⟩:=H
       rotate_left
       focus
        replace c55b0 : decide (1 < t114) = false:=c55b0
        have g1_:=trivial
       rotate_right
       replace c55b0 : decide (1 < t114) = true:=c55b0
       replace H:=iM_ H
       obtain ⟨c56b0,H⟩:=H
       replace H:=iM_ H
       obtain ⟨c57b0,H⟩:=H
       replace H:=iE_ H
       obtain ⟨c58b0,c58b1,H⟩ | ⟨c58b0,c58b1,H⟩:=H
       rotate_left
       focus have g0_:=trivial
       rotate_right
       replace H:=iD_ H
       obtain ⟨c59b0,H⟩ | ⟨c59b0,H⟩:=H
       rotate_left
       focus
        replace c59b0 : decide (a1_2 < a1_1) = false:=c59b0
        have g0_:=trivial
       rotate_right
       replace c59b0 : decide (a1_2 < a1_1) = true:=c59b0
       have g0_:=trivial
       all_goals first
       | (clear g0_
          obtain rfl:=Option.some.inj H
          obtain ⟨_,_,_,_,_,_,_,_⟩:=bc4 a0.out
          have p119 : 0 ≤ (a1_1 : Int):=dA_
          have q119 : a1_1 < (l0.length : Int):=dA_
          obtain ⟨ad119,e119,hx119_0,hx119_1,hx119_2,hx119_3⟩:=at_T83 a3.out a1_1 p119 q119
          cases e119
          replace hx119_0:=cB_ HB hx119_0
          replace hx119_1:=cB_ HB hx119_1
          replace hx119_2:=cB_ HB hx119_2
          replace hx119_3:=cB_ HB hx119_3
          replace p119:=eq_true p119
          replace q119:=eq_true q119
          have p120 : 0 ≤ (a1_2 : Int):=dA_
          have q120 : a1_2 < (l0.length : Int):=dA_
          obtain ⟨ad120,e120,hx120_0,hx120_1,hx120_2,hx120_3⟩:=at_T83 a3.out a1_2 p120 q120
          obtain rfl : ad119 = ad120:=(by injection e120)
          replace hx120_0:=cB_ HB hx120_0
          replace hx120_1:=cB_ HB hx120_1
          replace hx120_2:=cB_ HB hx120_2
          replace hx120_3:=cB_ HB hx120_3
          replace p120:=eq_true p120
          replace q120:=eq_true q120
          go_wp2
          go_ret
          exact ⟨Er_,Lb_⟩)
       | (clear g1_
          obtain rfl:=Option.some.inj H
          obtain ⟨_,_,_,_,_,_,_,_⟩:=bc4 a0.out
          have p119 : 0 ≤ (a1_1 : Int):=dA_
          have q119 : a1_1 < (l0.length : Int):=dA_
          obtain ⟨ad119,e119,hx119_0,hx119_1,hx119_2,hx119_3⟩:=at_T83 a3.out a1_1 p119 q119
          cases e119
          replace hx119_0:=cB_ HB hx119_0
          replace hx119_1:=cB_ HB hx119_1
          replace hx119_2:=cB_ HB hx119_2
          replace hx119_3:=cB_ HB hx119_3
          replace p119:=eq_true p119
          replace q119:=eq_true q119
          go_wp2
          go_ret
          exact ⟨Er_,Lb_⟩)
theorem eqA83 (d : Nat) (w : World) (x0 y0 x1 y1 x2 y2 x3 y3 : Int) :
    (Op.equalIn (d + 2) 83 (.agg #[.int .i64 x0,.int .i64 x1,.int .i64 x2,.int .i64 x3]) (.agg #[.int .i64 y0,.int .i64 y1,.int .i64 y2,.int .i64 y3])).run Tryz.prog w = .ok (x0 == y0 && (x1 == y1 && (x2 == y2 && (x3 == y3)))) w:=by
  refine eqA_of Tryz.underlying83 (by kernel_rfl) ?_
  refine eqf_cons (by rfl) (by go_simp;rfl) (by go_simp;rfl) (by go_simp) ?_
  refine eqf_cons (by rfl) (by go_simp;rfl) (by go_simp;rfl) (by go_simp) ?_
  refine eqf_cons (by rfl) (by go_simp;rfl) (by go_simp;rfl) (by go_simp) ?_
  exact eqf_last (by rfl) (by go_simp;rfl) (by go_simp;rfl) (by go_simp)
end Go.Proofs.YtcafikgabidphaaGreat.G
namespace Go.Proofs.YtcafikgabidphaaGreat.G
open Go.RowKit Go.Proofs.YtcafikgabidphaaGreatW.PrintWords Go.Proofs.YtcafikgabidphaaGreatW.PrintLast Go.Proofs.YtcafikgabidphaaGreatW.PrintMore
attribute [local go_sem] max2_int min2_int max_two min_two max_three min_three max_four min_four   -- for this text's walks alone
set_option linter.unusedVariables false
set_option linter.unusedSimpArgs false
attribute [local go_sem high] eqA83
def spec_l5Find.l0 : Nat → List (S83) → Int → Int → Int → Int → Int → Option (Int)
 | 0,_,_,_,_,_,_ => none
 | k + 1,x0,x5,x122000,x122001,x122002,x122003 => if x5 < (x0.length : Int) then (if 0 ≤ x5 then (if (((rd_T83 x0 x5).f0) == x122000 && (((rd_T83 x0 x5).f1) == x122001 && (((rd_T83 x0 x5).f2) == x122002 && (((rd_T83 x0 x5).f3) == x122003)))) = true then (some x5) else (spec_l5Find.l0 k x0 (wrap64 (x5 + 1)) x122000 x122001 x122002 x122003)) else (none)) else (some (-1))
def spec_l5Find.f (k : Nat) (l0 : List (S83)) (a1_0 a1_1 a1_2 a1_3 : Int) : Option (Int):=spec_l5Find.l0 k l0 0 a1_0 a1_1 a1_2 a1_3
set_option maxHeartbeats 8000000 in
set_option maxRecDepth 100000 in
theorem spec_l5Find.calls (k : Nat) (A0 : Option Addr) (c0 : Nat) (l0 : List (S83)) (a1_0 a1_1 a1_2 a1_3 r : Int) (w : World) (hr0 : Kd.C k83 w A0 l0.length l0) (hc0 : l0.length ≤ c0) (h : spec_l5Find.f k l0 a1_0 a1_1 a1_2 a1_3 = some r) :
  Calls Tryz.prog 75 #[.slice A0 l0.length c0,.agg #[.int .i64 a1_0,.int .i64 a1_1,.int .i64 a1_2,.int .i64 a1_3]] w fun e w' => e = .returned (.int .i64 r) ∧ Below w.heap.size w w':=by
 have hu83:=Tryz.underlying83
 have a4:=Z_ hr0
 have a5:=Z_ hc0
 clear hr0 hc0
 have HB:=Z_ (Below.refl w.heap.size w)
 unfold spec_l5Find.f at h
 have H:=h
 clear h
 have H':=Z_ H
 clear H
 go_enter Tryz.func75,Tryz.ntmps75
 go_wp2_with (first | ((with_reducible refine gD_ 3 rfl ?_);refine bx_ #[.int .i64 a1_0,.int .i64 a1_1,.int .i64 a1_2,.int .i64 a1_3] 83 ?_;intro a0 hg w3 hbox hb;have a1:=Z_ hbox;have a3:=Z_ ((by rw [hg];exact (below_size HB.out) : w.heap.size ≤ a0));replace HB:=Z_ (lP_ HB.out hb);have a2:=a3;clear hb hbox hg))
 repeat (go_quiet (first | ((with_reducible refine gate_dst (N:=3) rfl ?_);refine box_event ?hg (N:=3) ?hd (cs:=#[.int .i64 a1_0,.int .i64 a1_1,.int .i64 a1_2,.int .i64 a1_3]) (t:=83) ?hr ?_;(case hd => rfl);(case hg => rfl);(case hr => first | (go_simp;done) | (go_simp;rfl));intro a0 hg w3 hbox hb;have n0_:=Z_ (lP_ Lb_ hb);have n1_:=Z_ hbox;have n2_:=Z_ ((by rw [hg];exact (below_size Lb_) : w.heap.size ≤ a0));have n3_:=Z_ ((by rw [hg];exact (below_size Lb_) : w.heap.size ≤ a0));clear HB;have HB:=n0_;have a1:=n1_;have a3:=n2_;have a2:=n3_;clear n0_ n1_ n2_ n3_ hb hbox hg));try go_wp2_with (first | ((with_reducible refine gate_dst (N:=3) rfl ?_);refine box_event ?hg (N:=3) ?hd (cs:=#[.int .i64 a1_0,.int .i64 a1_1,.int .i64 a1_2,.int .i64 a1_3]) (t:=83) ?hr ?_;(case hd => rfl);(case hg => rfl);(case hr => first | (go_simp;done) | (go_simp;rfl));intro a0 hg w3 hbox hb;have n0_:=Z_ (lP_ HB.out hb);have n1_:=Z_ hbox;have n3_:=Z_ ((by rw [hg];exact (below_size HB.out) : w.heap.size ≤ a0));clear HB;have HB:=n0_;have a1:=n1_;have a2:=n3_;clear n0_ n1_ n3_ hb hbox hg)))
 go_loopg [5] k (fun kq v5 w' => ∃ (x5_1 : Int),v5 = .int .i64 x5_1 ∧ Aside0 (spec_l5Find.l0 kq l0 x5_1 a1_0 a1_1 a1_2 a1_3 = some r) ∧ Aside0 (kq ≤ k) ∧ Aside0 (w'.heap[a0]? = some (.cells #[.int .i64 a1_0,.int .i64 a1_1,.int .i64 a1_2,.int .i64 a1_3] 83 (0,0))) ∧ Aside0 (Below w.heap.size w w'))
 case atStart => exact ⟨(0),Sr_,H',⟨Nat.le_refl _⟩,⟨Bk_ a1⟩,⟨Lb_⟩⟩
 case round =>
  clear H'
  try clear p2
  obtain ⟨x5_1,rfl,HA,HK1,a1,HB⟩:=hrel
  cases gk with
  | zero => exact absurd HA.out (by simp [spec_l5Find.l0])
  | succ k1 =>
   have H:=HA.out
   clear HA
   simp only [spec_l5Find.l0] at H
   replace H:=iD_ H
   obtain ⟨c4b0,H⟩ | ⟨c4b0,H⟩:=H
   rotate_left
   ·obtain rfl:=Option.some.inj H
    go_wp2
    repeat (go_quiet (fail);try go_wp2)
    go_ret
    exact ⟨Er_,Lb_⟩
   rotate_right
   replace H:=iM_ H
   obtain ⟨c5b0,H⟩:=H
   replace H:=iC_ H
   obtain ⟨c6,H⟩ | ⟨c6,H⟩:=H
   ·have c6b0 : (((rd_T83 l0 x5_1).f0) == a1_0 && (((rd_T83 l0 x5_1).f1) == a1_1 && (((rd_T83 l0 x5_1).f2) == a1_2 && (((rd_T83 l0 x5_1).f3) == a1_3)))) = true:=c6
    (try (have c6b1 : decide (((rd_T83 l0 x5_1).f0) = a1_0 && (((rd_T83 l0 x5_1).f1) == a1_1 && (((rd_T83 l0 x5_1).f2) == a1_2 && (((rd_T83 l0 x5_1).f3) == a1_3)))) = true:=by simpa using c6))
    (try (have c6b2 : (((rd_T83 l0 x5_1).f0) == a1_0 && (((rd_T83 l0 x5_1).f1) == a1_1 && (((rd_T83 l0 x5_1).f2) == a1_2 && (((rd_T83 l0 x5_1).f3) == a1_3)))) = true:=by simpa using c6))
    clear c6
    obtain rfl:=Option.some.inj H
    have p122 : 0 ≤ (x5_1 : Int):=dA_
    have q122 : x5_1 < (l0.length : Int):=dA_
    obtain ⟨ad122,e122,hx122_0,hx122_1,hx122_2,hx122_3⟩:=at_T83 a4.out x5_1 p122 q122
    cases e122
    replace hx122_0:=cB_ HB hx122_0
    replace hx122_1:=cB_ HB hx122_1
    replace hx122_2:=cB_ HB hx122_2
    replace hx122_3:=cB_ HB hx122_3
    replace p122:=eq_true p122
    replace q122:=eq_true q122
    obtain ⟨_,_,_,_,_,_,_,_⟩:=bc4 a1.out
    go_wp2
    repeat (go_quiet (fail);try go_wp2)
    go_ret
    exact ⟨Er_,Lb_⟩
   have c6b0 : (((rd_T83 l0 x5_1).f0) == a1_0 && (((rd_T83 l0 x5_1).f1) == a1_1 && (((rd_T83 l0 x5_1).f2) == a1_2 && (((rd_T83 l0 x5_1).f3) == a1_3)))) = false:=by simpa using c6
   (try (have c6b1 : decide (((rd_T83 l0 x5_1).f0) = a1_0 && (((rd_T83 l0 x5_1).f1) == a1_1 && (((rd_T83 l0 x5_1).f2) == a1_2 && (((rd_T83 l0 x5_1).f3) == a1_3)))) = false:=by simpa using c6))
   (try (have c6b2 : (((rd_T83 l0 x5_1).f0) == a1_0 && (((rd_T83 l0 x5_1).f1) == a1_1 && (((rd_T83 l0 x5_1).f2) == a1_2 && (((rd_T83 l0 x5_1).f3) == a1_3)))) = false:=by simpa using c6))
   (try (have c6b3 : ¬ (((rd_T83 l0 x5_1).f0) = a1_0 && (((rd_T83 l0 x5_1).f1) == a1_1 && (((rd_T83 l0 x5_1).f2) == a1_2 && (((rd_T83 l0 x5_1).f3) == a1_3)))):=by simpa using c6))
   clear c6
   have H':=Z_ H
   clear H
   have p122 : 0 ≤ (x5_1 : Int):=dA_
   have q122 : x5_1 < (l0.length : Int):=dA_
   obtain ⟨ad122,e122,hx122_0,hx122_1,hx122_2,hx122_3⟩:=at_T83 a4.out x5_1 p122 q122
   cases e122
   replace hx122_0:=cB_ HB hx122_0
   replace hx122_1:=cB_ HB hx122_1
   replace hx122_2:=cB_ HB hx122_2
   replace hx122_3:=cB_ HB hx122_3
   replace p122:=eq_true p122
   replace q122:=eq_true q122
   obtain ⟨_,_,_,_,_,_,_,_⟩:=bc4 a1.out
   go_wp2
   repeat (go_quiet (fail);try go_wp2)
   go_roundg k1
   case measure => have:=HK1.out;omega
   case rel => exact ⟨(wrap64 (x5_1 + 1)),Sr_,H',⟨by have:=HK1.out;omega⟩,⟨Bk_ a1⟩,⟨Lb_⟩⟩
end Go.Proofs.YtcafikgabidphaaGreat.G
namespace Go.Proofs.YtcafikgabidphaaGreat.G
open Go.RowKit Go.Proofs.YtcafikgabidphaaGreatW.PrintWords Go.Proofs.YtcafikgabidphaaGreatW.PrintLast Go.Proofs.YtcafikgabidphaaGreatW.PrintMore
attribute [local go_sem] max2_int min2_int max_two min_two max_three min_three max_four min_four   -- for this text's walks alone
set_option linter.unusedVariables false
set_option linter.unusedSimpArgs false
def spec_TermsFault.l0 : Nat → List (S83) → Int → Option (Int)
 | 0,_,_ => none
 | k + 1,x0,x3 => if x3 < (x0.length : Int) then (if 0 ≤ x3 then (if x3 ≤ (x0.length : Int) then ((spec_l5Term.f k (x0.take (x3 : Int).toNat) ((rd_T83 x0 x3).f0) ((rd_T83 x0 x3).f1) ((rd_T83 x0 x3).f2) ((rd_T83 x0 x3).f3)).bind fun t128 => (if t128 = 0 then ((spec_l5Find.f k (x0.take (x3 : Int).toNat) ((rd_T83 x0 x3).f0) ((rd_T83 x0 x3).f1) ((rd_T83 x0 x3).f2) ((rd_T83 x0 x3).f3)).bind fun t134 => (if t134 ≥ 0 then (some 7) else (spec_TermsFault.l0 k x0 (wrap64 (x3 + 1))))) else (some t128))) else (none)) else (none)) else (some 0)
def spec_TermsFault.f (k : Nat) (l0 : List (S83)) : Option (Int):=if (l0.length : Int) > 400 then (some 2) else (spec_TermsFault.l0 k l0 0)
def spec_TermsFault.T6 : Bool × List (List Nat × List Nat):=(true,[([],[]),([],[]),([0,1],[0,1]),([],[]),([],[]),([3,4],[3,4]),([5],[5]),([2,6],[2,6]),([7,7,0,1,2,3,4,5,6,7],[7])])
def spec_TermsFault.B6 : List Nat:=[0,0,3,0,0,24,56,127,255]
theorem spec_TermsFault.tab6 : rtab .any (opsOf Tryz.f42 6) = spec_TermsFault.T6:=by kernel_rfl
theorem spec_TermsFault.bits6 : waitsOk spec_TermsFault.T6.2 spec_TermsFault.B6 = true:=by kernel_rfl
def spec_TermsFault.T9 : Bool × List (List Nat × List Nat):=(true,[([],[]),([],[]),([0,1],[0,1]),([],[]),([],[]),([3,4],[3,4]),([5],[5]),([2,6],[2,6]),([7],[7])])
def spec_TermsFault.B9 : List Nat:=[0,0,3,0,0,24,56,127,255]
theorem spec_TermsFault.tab9 : rtab .any (opsOf Tryz.f42 9) = spec_TermsFault.T9:=by kernel_rfl
theorem spec_TermsFault.bits9 : waitsOk spec_TermsFault.T9.2 spec_TermsFault.B9 = true:=by kernel_rfl
abbrev spec_TermsFault.calls.b0 : Array Bool:=#[false,false,false,false,false,false,false,false,false]
abbrev spec_TermsFault.calls.b1 : Array Bool:=#[true,false,false,false,false,false,false,false,false]
abbrev spec_TermsFault.calls.b2 : Array Bool:=#[true,true,false,false,false,false,false,false,false]
abbrev spec_TermsFault.calls.b3 : Array Bool:=#[true,true,true,false,false,false,false,false,false]
abbrev spec_TermsFault.calls.b4 : Array Bool:=#[true,true,true,true,false,false,false,false,false]
abbrev spec_TermsFault.calls.b5 : Array Bool:=#[true,true,true,true,true,false,false,false,false]
abbrev spec_TermsFault.calls.b6 : Array Bool:=#[true,true,true,true,true,true,false,false,false]
abbrev spec_TermsFault.calls.b7 : Array Bool:=#[true,true,true,true,true,true,true,false,false]
abbrev spec_TermsFault.calls.b8 : Array Bool:=#[true,true,true,true,true,true,true,true,false]
abbrev spec_TermsFault.calls.b9 : Array Bool:=#[true,true,true,true,true,true,true,true,true]
set_option maxHeartbeats 8000000 in
set_option maxRecDepth 100000 in
theorem spec_TermsFault.calls (k : Nat) (A0 : Option Addr) (c0 : Nat) (l0 : List (S83)) (r : Int) (w : World) (hr0 : Kd.C k83 w A0 l0.length l0) (hc0 : l0.length ≤ c0) (h : spec_TermsFault.f k l0 = some r) :
  Calls Tryz.prog 42 #[.slice A0 l0.length c0] w fun e w' => e = .returned (.int .i64 r) ∧ Below w.heap.size w w':=by
 have hu83:=Tryz.underlying83
 have a3:=Z_ hr0
 have aa:=Z_ hc0
 clear hr0 hc0
 have HB:=Z_ (Below.refl w.heap.size w)
 unfold spec_TermsFault.f at h
 have H:=h
 clear h
 replace H:=iC_ H
 obtain ⟨c2,H⟩ | ⟨c2,H⟩:=H
 ·have c2b0 : decide (400 < (l0.length : Int)) = true:=decide_eq_true c2
  have c2b1 : decide (400 < l0.length) = true:=decide_eq_true (by omega)
  clear c2
  obtain rfl:=Option.some.inj H
  go_enter Tryz.func42,Tryz.ntmps42
  go_wp2
  go_ret
  exact ⟨Er_,Lb_⟩
 have c2b0 : decide (400 < (l0.length : Int)) = false:=decide_eq_false c2
 have c2b1 : decide (400 < l0.length) = false:=decide_eq_false (by omega)
 clear c2
 have H':=Z_ H
 clear H
 go_enter Tryz.func42,Tryz.ntmps42
 go_wp2
 go_loopg [3] k (fun kq v3 w' => ∃ (x3_1 : Int),v3 = .int .i64 x3_1 ∧ Aside0 (spec_TermsFault.l0 kq l0 x3_1 = some r) ∧ Aside0 (kq ≤ k) ∧ Aside0 (Below w.heap.size w w'))
 case atStart => exact ⟨(0),Sr_,H',⟨Nat.le_refl _⟩,⟨Lb_⟩⟩
 case round =>
  clear H'
  try clear c2
  try clear c2b0
  try clear c2b1
  try clear p2
  obtain ⟨x3_1,rfl,HA,HK1,HB⟩:=hrel
  cases gk with
  | zero => exact absurd HA.out (by simp [spec_TermsFault.l0])
  | succ k1 =>
   have H:=HA.out
   clear HA
   simp only [spec_TermsFault.l0] at H
   replace H:=iD_ H
   obtain ⟨c3b0,H⟩ | ⟨c3b0,H⟩:=H
   rotate_left
   ·obtain rfl:=Option.some.inj H
    go_wp2
    go_ret
    exact ⟨Er_,Lb_⟩
   rotate_right
   replace H:=iN_ H
   obtain ⟨c4,H⟩:=H
   have c4b0:=eq_true c4
   have c4b1 : decide (0 ≤ x3_1) = true:=decide_eq_true c4
   clear c4
   replace H:=iN_ H
   obtain ⟨c5,H⟩:=H
   have c5b0:=eq_true c5
   have c5b1 : decide (x3_1 ≤ (l0.length : Int)) = true:=decide_eq_true c5
   clear c5
   obtain ⟨y123,hy123⟩ : ∃ y_ : List (S83),y_ = (l0.take (x3_1 : Int).toNat):=⟨_,rfl⟩
   replace H : ((spec_l5Term.f k1 y123 ((rd_T83 l0 x3_1).f0) ((rd_T83 l0 x3_1).f1) ((rd_T83 l0 x3_1).f2) ((rd_T83 l0 x3_1).f3)).bind fun t128 => (if t128 = 0 then ((spec_l5Find.f k1 (l0.take (x3_1 : Int).toNat) ((rd_T83 l0 x3_1).f0) ((rd_T83 l0 x3_1).f1) ((rd_T83 l0 x3_1).f2) ((rd_T83 l0 x3_1).f3)).bind fun t134 => (if t134 ≥ 0 then (some 7) else (spec_TermsFault.l0 k1 l0 (wrap64 (x3_1 + 1))))) else (some t128))) = some r:=by first | (rw [hy123];with_reducible exact H) | (have H2_:=(Option.bind_some _ _).symm.trans H;rw [hy123];with_reducible exact H2_) | (have H2_:=(Option.bind_some _ _).symm.trans H;with_reducible exact H2_) | with_reducible exact H | (rw [hy123];exact H) | exact H
   have a2:=Z_ hy123
   clear hy123
   replace H:=bS_ H
   obtain ⟨t128,A6,H⟩:=H
   replace H:=iE_ H
   obtain ⟨c7b0,c7b1,H⟩ | ⟨c7b0,c7b1,H⟩:=H
   rotate_left
   ·obtain rfl:=Option.some.inj H
    try go_wp2
    replace HB:=Z_ (lD_ HB.out)
    have q25 : (x3_1 : Int) ≤ ((l0.length : Int) : Int):=dA_
    obtain ⟨i025,hi025,_,hsz25,_⟩:=info_parts info83
    have hroom25 : l0.length ≤ c0:=aa.out
    have hC25 : Kd.C k83 _ A0 l0.length l0:=a3.out
    try clear a1
    try clear a5
    try clear a8
    try clear ab
    have ad:=cut_to (P:=Tryz.prog) 30 83 .i64 Tryz.underlying30 hi025 A0 l0.length c0 x3_1 (dA_) q25 hroom25
    have hr25:=Kd.C_take (m:=(x3_1 : Int).toNat) hC25 (by omega)
    have hy25 : y123.length = (x3_1 : Int).toNat:=(by rw [a2.out,List.length_take];omega)
    rw [← a2.out] at hr25
    rw [← hy25] at ad
    have a0:=Z_ hr25
    have a4:=Z_ (show y123.length ≤ c0 from by omega)
    clear hr25 hC25 hroom25 hi025 hsz25
    have KY25:=Z_ hy25
    clear hy25
    replace q25:=eq_true q25
    have p127 : 0 ≤ (x3_1 : Int):=dA_
    have q127 : x3_1 < (l0.length : Int):=dA_
    obtain ⟨ad127,e127,hx127_0,hx127_1,hx127_2,hx127_3⟩:=at_T83 a3.out x3_1 p127 q127
    have hw127_3:=hx127_3
    have hw127_2:=hx127_2
    have hw127_1:=hx127_1
    have hw127_0:=hx127_0
    cases e127
    replace hx127_0:=cB_ HB hx127_0
    replace hx127_1:=cB_ HB hx127_1
    replace hx127_2:=cB_ HB hx127_2
    replace hx127_3:=cB_ HB hx127_3
    replace p127:=eq_true p127
    replace q127:=eq_true q127
    refine start_ (n:=9) (S:=fun w' => w'.cell? (ad127.add ((x3_1).toNat * 4)) = some (.int .i64 ((rd_T83 l0 x3_1).f0)) ∧ w'.cell? ⟨(ad127.add ((x3_1).toNat * 4)).block,(ad127.add ((x3_1).toNat * 4)).off + 1,none⟩ = some (.int .i64 ((rd_T83 l0 x3_1).f1)) ∧ w'.cell? ⟨(ad127.add ((x3_1).toNat * 4)).block,(ad127.add ((x3_1).toNat * 4)).off + 2,none⟩ = some (.int .i64 ((rd_T83 l0 x3_1).f2)) ∧ w'.cell? ⟨(ad127.add ((x3_1).toNat * 4)).block,(ad127.add ((x3_1).toNat * 4)).off + 3,none⟩ = some (.int .i64 ((rd_T83 l0 x3_1).f3))) (ds:=[]) spec_TermsFault.calls.b0 (by kernel_rfl) rfl rfl ⟨(cB_ HB hw127_0),(cB_ HB hw127_1),(cB_ HB hw127_2),(cB_ HB hw127_3)⟩ (fun hHeld => ?_);refine with_tabW spec_TermsFault.tab6 spec_TermsFault.bits6 (fun HT_ HW_ => ?_)
    generalize wr.drew = w24 at HB a0 hx127_0 hx127_1 hx127_2 hx127_3 hHeld ⊢
    refine pure_ (i:=0) (N:=some 14) (v:=?_) (a':=?_) spec_TermsFault.calls.b1 rfl rfl (any_of HT_.out (by kernel_rfl)) (fun _ _ _ h => h) (Or.inl ⟨by rfl,?_⟩) ?_ ?_
    rotate_left
    ·intro w'
     go_simp
     with_reducible rfl
    rotate_left
    ·simp only [Act.put,lA_,lZ_,lS_,i64_w,i32_w]
     rfl
    refine pure_ (i:=1) (N:=some 15) (v:=?_) (a':=?_) spec_TermsFault.calls.b2 rfl rfl (any_of HT_.out (by kernel_rfl)) (fun _ _ _ h => h) (Or.inl ⟨by rfl,?_⟩) ?_ ?_
    rotate_left
    ·intro w'
     go_simp
     with_reducible rfl
    rotate_left
    ·simp only [Act.put,lA_,lZ_,lS_,i64_w,i32_w]
     rfl
    refine pure_ (i:=2) (N:=some 16) (v:=?_) (a':=?_) spec_TermsFault.calls.b3 rfl rfl (any_of HT_.out (by kernel_rfl)) (fun _ _ _ h => h) (Or.inl ⟨by rfl,?_⟩) ?_ ?_
    rotate_left
    ·intro w'
     go_simp
     with_reducible rfl
    rotate_left
    ·simp only [Act.put,lA_,lZ_,lS_,i64_w,i32_w]
     rfl
    refine pure_ (i:=3) (N:=some 17) (v:=?_) (a':=?_) spec_TermsFault.calls.b4 rfl rfl (any_of HT_.out (by kernel_rfl)) (fun _ _ _ h => h) (Or.inl ⟨by rfl,?_⟩) ?_ ?_
    rotate_left
    ·intro w'
     go_simp
     with_reducible rfl
    rotate_left
    ·simp only [Act.put,lA_,lZ_,lS_,i64_w,i32_w]
     rfl
    refine pure_ (i:=4) (N:=some 18) (v:=?_) (a':=?_) spec_TermsFault.calls.b5 rfl rfl (any_of HT_.out (by kernel_rfl)) (fun _ _ _ h => h) (Or.inl ⟨by rfl,?_⟩) ?_ ?_
    rotate_left
    ·intro w'
     go_simp
     with_reducible rfl
    rotate_left
    ·simp only [Act.put,lA_,lZ_,lS_,i64_w,i32_w]
     rfl
    refine pure_ (i:=5) (N:=some 19) (v:=?_) (a':=?_) spec_TermsFault.calls.b6 rfl rfl (any_of HT_.out (by kernel_rfl)) (fun _ _ _ h => h) (Or.inl ⟨by rfl,?_⟩) ?_ ?_
    rotate_left
    ·intro w'
     go_simp
     with_reducible rfl
    rotate_left
    ·simp only [Act.put,lA_,lZ_,lS_,i64_w,i32_w]
     rfl
    refine take_ (i:=6) (N:=some 20) (v:=?_) (a':=?_) spec_TermsFault.calls.b7 rfl rfl (take_ofW HT_.out HW_.out (by kernel_rfl)) (fun _ _ _ h => h) (Or.inl ⟨by rfl,?_⟩) hHeld ?_ ?_
    rotate_left
    ·rintro w' ⟨s0,s1,s2,s3⟩
     go_simp
     with_reducible rfl
    rotate_left
    ·simp only [Act.put,lA_,lZ_,lS_,i64_w,i32_w]
     rfl
    refine one_ (i:=7) (N:=some 21) spec_TermsFault.calls.b8 rfl rfl (one_of HT_.out (by kernel_rfl)) (by decide) (fun K hK => ?_)
    refine goes_ Tryz.func74 (by kernel_rfl) rfl #[.slice (some ad127) y123.length c0,.agg #[.int .i64 ((rd_T83 l0 x3_1).f0),.int .i64 ((rd_T83 l0 x3_1).f1),.int .i64 ((rd_T83 l0 x3_1).f2),.int .i64 ((rd_T83 l0 x3_1).f3)]] (by rfl) rfl rfl (by (try simp only [List.map_toArray,List.map_cons,List.map_nil]);first | done | rfl | (simp only [List.length_drop,List.length_take];rfl)) ?_
    with_reducible refine (spec_l5Term.calls k1 _ _ y123 ((rd_T83 l0 x3_1).f0) ((rd_T83 l0 x3_1).f1) ((rd_T83 l0 x3_1).f2) ((rd_T83 l0 x3_1).f3) t128 _ ?side1 ?side2 A6.out).mono ?_
    (case side1 => exact Cb_ a0)
    (case side2 => exact a4.out)
    rintro e w26 ⟨rfl,hb⟩
    refine ⟨_,rfl,?_⟩
    replace HB:=Z_ (lP_ Lb_ hb)
    (try clear hb)
    (try clear hb2)
    (try clear hk)
    (try clear hi)
    refine hK.out _ _ ⟨(cB_ HB hw127_0),(cB_ HB hw127_1),(cB_ HB hw127_2),(cB_ HB hw127_3)⟩ (fun hHeld => ?_)
    clear hK K
    refine norm_ (a':=?_) ?_ ?_
    rotate_left
    ·show Act.put _ (some 21) _ = _
     simp only [Act.put,lA_,lZ_,lS_,i64_w,i32_w]
     rfl
    refine pure_ (i:=8) (N:=some 4) (v:=?_) (a':=?_) spec_TermsFault.calls.b9 rfl rfl (any_of HT_.out (by kernel_rfl)) (fun _ _ _ h => h) (Or.inl ⟨by rfl,?_⟩) ?_ ?_
    rotate_left
    ·intro w'
     go_simp
     with_reducible rfl
    rotate_left
    ·simp only [Act.put,lA_,lZ_,lS_,i64_w,i32_w]
     rfl
    refine done_ (done_of HT_.out (by kernel_rfl)) ?_
    try go_wp2
    go_ret
    exact ⟨Er_,Lb_⟩
   rotate_right
   have c8b0:=eq_true (dA_ : 0 ≤ x3_1)
   have c9b0:=eq_true (dA_ : x3_1 ≤ (l0.length : Int))
   obtain ⟨y129,hy129⟩ : ∃ y_ : List (S83),y_ = (l0.take (x3_1 : Int).toNat):=⟨_,rfl⟩
   replace H : ((spec_l5Find.f k1 y129 ((rd_T83 l0 x3_1).f0) ((rd_T83 l0 x3_1).f1) ((rd_T83 l0 x3_1).f2) ((rd_T83 l0 x3_1).f3)).bind fun t134 => (if t134 ≥ 0 then (some 7) else (spec_TermsFault.l0 k1 l0 (wrap64 (x3_1 + 1))))) = some r:=by first | (rw [hy129];with_reducible exact H) | (have H2_:=(Option.bind_some _ _).symm.trans H;rw [hy129];with_reducible exact H2_) | (have H2_:=(Option.bind_some _ _).symm.trans H;with_reducible exact H2_) | with_reducible exact H | (rw [hy129];exact H) | exact H
   have a7:=Z_ hy129
   clear hy129
   replace H:=bS_ H
   obtain ⟨t134,af,H⟩:=H
   replace H:=iD_ H
   obtain ⟨c11b0,H⟩ | ⟨c11b0,H⟩:=H
   ·replace c11b0 : decide (0 ≤ t134) = true:=c11b0
    obtain rfl:=Option.some.inj H
    try go_wp2
    replace HB:=Z_ (lD_ HB.out)
    have q13 : (x3_1 : Int) ≤ ((l0.length : Int) : Int):=dA_
    obtain ⟨i013,hi013,_,hsz13,_⟩:=info_parts info83
    have hroom13 : l0.length ≤ c0:=aa.out
    have hC13 : Kd.C k83 _ A0 l0.length l0:=a3.out
    have a1:=cut_to (P:=Tryz.prog) 30 83 .i64 Tryz.underlying30 hi013 A0 l0.length c0 x3_1 (dA_) q13 hroom13
    have hr13:=Kd.C_take (m:=(x3_1 : Int).toNat) hC13 (by omega)
    have hy13 : y123.length = (x3_1 : Int).toNat:=(by rw [a2.out,List.length_take];omega)
    rw [← a2.out] at hr13
    rw [← hy13] at a1
    have a0:=Z_ hr13
    have a4:=Z_ (show y123.length ≤ c0 from by omega)
    clear hr13 hC13 hroom13 hi013 hsz13
    have KY13:=Z_ hy13
    clear hy13
    replace q13:=eq_true q13
    have p127 : 0 ≤ (x3_1 : Int):=dA_
    have q127 : x3_1 < (l0.length : Int):=dA_
    obtain ⟨ad127,e127,hx127_0,hx127_1,hx127_2,hx127_3⟩:=at_T83 a3.out x3_1 p127 q127
    have hw127_3:=hx127_3
    have hw127_2:=hx127_2
    have hw127_1:=hx127_1
    have hw127_0:=hx127_0
    cases e127
    replace hx127_0:=cB_ HB hx127_0
    replace hx127_1:=cB_ HB hx127_1
    replace hx127_2:=cB_ HB hx127_2
    replace hx127_3:=cB_ HB hx127_3
    replace p127:=eq_true p127
    replace q127:=eq_true q127
    refine start_ (n:=9) (S:=fun w' => w'.cell? (ad127.add ((x3_1).toNat * 4)) = some (.int .i64 ((rd_T83 l0 x3_1).f0)) ∧ w'.cell? ⟨(ad127.add ((x3_1).toNat * 4)).block,(ad127.add ((x3_1).toNat * 4)).off + 1,none⟩ = some (.int .i64 ((rd_T83 l0 x3_1).f1)) ∧ w'.cell? ⟨(ad127.add ((x3_1).toNat * 4)).block,(ad127.add ((x3_1).toNat * 4)).off + 2,none⟩ = some (.int .i64 ((rd_T83 l0 x3_1).f2)) ∧ w'.cell? ⟨(ad127.add ((x3_1).toNat * 4)).block,(ad127.add ((x3_1).toNat * 4)).off + 3,none⟩ = some (.int .i64 ((rd_T83 l0 x3_1).f3))) (ds:=[]) spec_TermsFault.calls.b0 (by kernel_rfl) rfl rfl ⟨(cB_ HB hw127_0),(cB_ HB hw127_1),(cB_ HB hw127_2),(cB_ HB hw127_3)⟩ (fun hHeld => ?_);refine with_tabW spec_TermsFault.tab6 spec_TermsFault.bits6 (fun HT_ HW_ => ?_)
    generalize wr.drew = w12 at HB a0 hx127_0 hx127_1 hx127_2 hx127_3 hHeld ⊢
    refine pure_ (i:=0) (N:=some 14) (v:=?_) (a':=?_) spec_TermsFault.calls.b1 rfl rfl (any_of HT_.out (by kernel_rfl)) (fun _ _ _ h => h) (Or.inl ⟨by rfl,?_⟩) ?_ ?_
    rotate_left
    ·intro w'
     go_simp
     with_reducible rfl
    rotate_left
    ·simp only [Act.put,lA_,lZ_,lS_,i64_w,i32_w]
     rfl
    refine pure_ (i:=1) (N:=some 15) (v:=?_) (a':=?_) spec_TermsFault.calls.b2 rfl rfl (any_of HT_.out (by kernel_rfl)) (fun _ _ _ h => h) (Or.inl ⟨by rfl,?_⟩) ?_ ?_
    rotate_left
    ·intro w'
     go_simp
     with_reducible rfl
    rotate_left
    ·simp only [Act.put,lA_,lZ_,lS_,i64_w,i32_w]
     rfl
    refine pure_ (i:=2) (N:=some 16) (v:=?_) (a':=?_) spec_TermsFault.calls.b3 rfl rfl (any_of HT_.out (by kernel_rfl)) (fun _ _ _ h => h) (Or.inl ⟨by rfl,?_⟩) ?_ ?_
    rotate_left
    ·intro w'
     go_simp
     with_reducible rfl
    rotate_left
    ·simp only [Act.put,lA_,lZ_,lS_,i64_w,i32_w]
     rfl
    refine pure_ (i:=3) (N:=some 17) (v:=?_) (a':=?_) spec_TermsFault.calls.b4 rfl rfl (any_of HT_.out (by kernel_rfl)) (fun _ _ _ h => h) (Or.inl ⟨by rfl,?_⟩) ?_ ?_
    rotate_left
    ·intro w'
     go_simp
     with_reducible rfl
    rotate_left
    ·simp only [Act.put,lA_,lZ_,lS_,i64_w,i32_w]
     rfl
    refine pure_ (i:=4) (N:=some 18) (v:=?_) (a':=?_) spec_TermsFault.calls.b5 rfl rfl (any_of HT_.out (by kernel_rfl)) (fun _ _ _ h => h) (Or.inl ⟨by rfl,?_⟩) ?_ ?_
    rotate_left
    ·intro w'
     go_simp
     with_reducible rfl
    rotate_left
    ·simp only [Act.put,lA_,lZ_,lS_,i64_w,i32_w]
     rfl
    refine pure_ (i:=5) (N:=some 19) (v:=?_) (a':=?_) spec_TermsFault.calls.b6 rfl rfl (any_of HT_.out (by kernel_rfl)) (fun _ _ _ h => h) (Or.inl ⟨by rfl,?_⟩) ?_ ?_
    rotate_left
    ·intro w'
     go_simp
     with_reducible rfl
    rotate_left
    ·simp only [Act.put,lA_,lZ_,lS_,i64_w,i32_w]
     rfl
    refine take_ (i:=6) (N:=some 20) (v:=?_) (a':=?_) spec_TermsFault.calls.b7 rfl rfl (take_ofW HT_.out HW_.out (by kernel_rfl)) (fun _ _ _ h => h) (Or.inl ⟨by rfl,?_⟩) hHeld ?_ ?_
    rotate_left
    ·rintro w' ⟨s0,s1,s2,s3⟩
     go_simp
     with_reducible rfl
    rotate_left
    ·simp only [Act.put,lA_,lZ_,lS_,i64_w,i32_w]
     rfl
    refine one_ (i:=7) (N:=some 21) spec_TermsFault.calls.b8 rfl rfl (one_of HT_.out (by kernel_rfl)) (by decide) (fun K hK => ?_)
    refine goes_ Tryz.func74 (by kernel_rfl) rfl #[.slice (some ad127) y123.length c0,.agg #[.int .i64 ((rd_T83 l0 x3_1).f0),.int .i64 ((rd_T83 l0 x3_1).f1),.int .i64 ((rd_T83 l0 x3_1).f2),.int .i64 ((rd_T83 l0 x3_1).f3)]] (by rfl) rfl rfl (by (try simp only [List.map_toArray,List.map_cons,List.map_nil]);first | done | rfl | (simp only [List.length_drop,List.length_take];rfl)) ?_
    with_reducible refine (spec_l5Term.calls k1 _ _ y123 ((rd_T83 l0 x3_1).f0) ((rd_T83 l0 x3_1).f1) ((rd_T83 l0 x3_1).f2) ((rd_T83 l0 x3_1).f3) t128 _ ?side1 ?side2 A6.out).mono ?_
    (case side1 => exact Cb_ a0)
    (case side2 => exact a4.out)
    rintro e w14 ⟨rfl,hb⟩
    refine ⟨_,rfl,?_⟩
    replace HB:=Z_ (lP_ Lb_ hb)
    (try clear hb)
    (try clear hb2)
    (try clear hk)
    (try clear hi)
    refine hK.out _ _ ⟨(cB_ HB hw127_0),(cB_ HB hw127_1),(cB_ HB hw127_2),(cB_ HB hw127_3)⟩ (fun hHeld => ?_)
    clear hK K
    refine norm_ (a':=?_) ?_ ?_
    rotate_left
    ·show Act.put _ (some 21) _ = _
     simp only [Act.put,lA_,lZ_,lS_,i64_w,i32_w]
     rfl
    refine pure_ (i:=8) (N:=some 4) (v:=?_) (a':=?_) spec_TermsFault.calls.b9 rfl rfl (any_of HT_.out (by kernel_rfl)) (fun _ _ _ h => h) (Or.inl ⟨by rfl,?_⟩) ?_ ?_
    rotate_left
    ·intro w'
     go_simp
     with_reducible rfl
    rotate_left
    ·simp only [Act.put,lA_,lZ_,lS_,i64_w,i32_w]
     rfl
    refine done_ (done_of HT_.out (by kernel_rfl)) ?_
    try go_wp2
    replace HB:=Z_ (lD_ HB.out)
    have q16 : (x3_1 : Int) ≤ ((l0.length : Int) : Int):=dA_
    obtain ⟨i016,hi016,_,hsz16,_⟩:=info_parts info83
    have hroom16 : l0.length ≤ c0:=aa.out
    have hC16 : Kd.C k83 _ (some ad127) l0.length l0:=a3.out
    try clear a1
    have a5:=cut_to (P:=Tryz.prog) 30 83 .i64 Tryz.underlying30 hi016 (some ad127) l0.length c0 x3_1 (dA_) q16 hroom16
    have hr16:=Kd.C_take (m:=(x3_1 : Int).toNat) hC16 (by omega)
    have hy16 : y129.length = (x3_1 : Int).toNat:=(by rw [a7.out,List.length_take];omega)
    rw [← a7.out] at hr16
    rw [← hy16] at a5
    have a6:=Z_ hr16
    have a9:=Z_ (show y129.length ≤ c0 from by omega)
    clear hr16 hC16 hroom16 hi016 hsz16
    have KY16:=Z_ hy16
    clear hy16
    replace q16:=eq_true q16
    have p133 : 0 ≤ (x3_1 : Int):=dA_
    have q133 : x3_1 < (l0.length : Int):=dA_
    obtain ⟨ad133,e133,hx133_0,hx133_1,hx133_2,hx133_3⟩:=at_T83 a3.out x3_1 p133 q133
    have hw133_3:=hx133_3
    have hw133_2:=hx133_2
    have hw133_1:=hx133_1
    have hw133_0:=hx133_0
    obtain rfl : ad127 = ad133:=(by injection e133)
    replace hx133_0:=cB_ HB hx133_0
    replace hx133_1:=cB_ HB hx133_1
    replace hx133_2:=cB_ HB hx133_2
    replace hx133_3:=cB_ HB hx133_3
    replace p133:=eq_true p133
    replace q133:=eq_true q133
    refine start_ (n:=9) (S:=fun w' => w'.cell? (ad127.add ((x3_1).toNat * 4)) = some (.int .i64 ((rd_T83 l0 x3_1).f0)) ∧ w'.cell? ⟨(ad127.add ((x3_1).toNat * 4)).block,(ad127.add ((x3_1).toNat * 4)).off + 1,none⟩ = some (.int .i64 ((rd_T83 l0 x3_1).f1)) ∧ w'.cell? ⟨(ad127.add ((x3_1).toNat * 4)).block,(ad127.add ((x3_1).toNat * 4)).off + 2,none⟩ = some (.int .i64 ((rd_T83 l0 x3_1).f2)) ∧ w'.cell? ⟨(ad127.add ((x3_1).toNat * 4)).block,(ad127.add ((x3_1).toNat * 4)).off + 3,none⟩ = some (.int .i64 ((rd_T83 l0 x3_1).f3))) (ds:=[]) spec_TermsFault.calls.b0 (by kernel_rfl) rfl rfl ⟨(cB_ HB hw133_0),(cB_ HB hw133_1),(cB_ HB hw133_2),(cB_ HB hw133_3)⟩ (fun hHeld => ?_);refine with_tabW spec_TermsFault.tab9 spec_TermsFault.bits9 (fun HT_ HW_ => ?_)
    generalize w14.drew = w15 at HB a6 hx133_0 hx133_1 hx133_2 hx133_3 hHeld ⊢
    refine pure_ (i:=0) (N:=some 25) (v:=?_) (a':=?_) spec_TermsFault.calls.b1 rfl rfl (any_of HT_.out (by kernel_rfl)) (fun _ _ _ h => h) (Or.inl ⟨by rfl,?_⟩) ?_ ?_
    rotate_left
    ·intro w'
     go_simp
     with_reducible rfl
    rotate_left
    ·simp only [Act.put,lA_,lZ_,lS_,i64_w,i32_w]
     rfl
    refine pure_ (i:=1) (N:=some 26) (v:=?_) (a':=?_) spec_TermsFault.calls.b2 rfl rfl (any_of HT_.out (by kernel_rfl)) (fun _ _ _ h => h) (Or.inl ⟨by rfl,?_⟩) ?_ ?_
    rotate_left
    ·intro w'
     go_simp
     with_reducible rfl
    rotate_left
    ·simp only [Act.put,lA_,lZ_,lS_,i64_w,i32_w]
     rfl
    refine pure_ (i:=2) (N:=some 27) (v:=?_) (a':=?_) spec_TermsFault.calls.b3 rfl rfl (any_of HT_.out (by kernel_rfl)) (fun _ _ _ h => h) (Or.inl ⟨by rfl,?_⟩) ?_ ?_
    rotate_left
    ·intro w'
     go_simp
     with_reducible rfl
    rotate_left
    ·simp only [Act.put,lA_,lZ_,lS_,i64_w,i32_w]
     rfl
    refine pure_ (i:=3) (N:=some 28) (v:=?_) (a':=?_) spec_TermsFault.calls.b4 rfl rfl (any_of HT_.out (by kernel_rfl)) (fun _ _ _ h => h) (Or.inl ⟨by rfl,?_⟩) ?_ ?_
    rotate_left
    ·intro w'
     go_simp
     with_reducible rfl
    rotate_left
    ·simp only [Act.put,lA_,lZ_,lS_,i64_w,i32_w]
     rfl
    refine pure_ (i:=4) (N:=some 29) (v:=?_) (a':=?_) spec_TermsFault.calls.b5 rfl rfl (any_of HT_.out (by kernel_rfl)) (fun _ _ _ h => h) (Or.inl ⟨by rfl,?_⟩) ?_ ?_
    rotate_left
    ·intro w'
     go_simp
     with_reducible rfl
    rotate_left
    ·simp only [Act.put,lA_,lZ_,lS_,i64_w,i32_w]
     rfl
    refine pure_ (i:=5) (N:=some 30) (v:=?_) (a':=?_) spec_TermsFault.calls.b6 rfl rfl (any_of HT_.out (by kernel_rfl)) (fun _ _ _ h => h) (Or.inl ⟨by rfl,?_⟩) ?_ ?_
    rotate_left
    ·intro w'
     go_simp
     with_reducible rfl
    rotate_left
    ·simp only [Act.put,lA_,lZ_,lS_,i64_w,i32_w]
     rfl
    refine take_ (i:=6) (N:=some 31) (v:=?_) (a':=?_) spec_TermsFault.calls.b7 rfl rfl (take_ofW HT_.out HW_.out (by kernel_rfl)) (fun _ _ _ h => h) (Or.inl ⟨by rfl,?_⟩) hHeld ?_ ?_
    rotate_left
    ·rintro w' ⟨s0,s1,s2,s3⟩
     go_simp
     with_reducible rfl
    rotate_left
    ·simp only [Act.put,lA_,lZ_,lS_,i64_w,i32_w]
     rfl
    refine one_ (i:=7) (N:=some 32) spec_TermsFault.calls.b8 rfl rfl (one_of HT_.out (by kernel_rfl)) (by decide) (fun K hK => ?_)
    refine goes_ Tryz.func75 (by kernel_rfl) rfl #[.slice (some ad127) y129.length c0,.agg #[.int .i64 ((rd_T83 l0 x3_1).f0),.int .i64 ((rd_T83 l0 x3_1).f1),.int .i64 ((rd_T83 l0 x3_1).f2),.int .i64 ((rd_T83 l0 x3_1).f3)]] (by rfl) rfl rfl (by (try simp only [List.map_toArray,List.map_cons,List.map_nil]);first | done | rfl | (simp only [List.length_drop,List.length_take];rfl)) ?_
    with_reducible refine (spec_l5Find.calls k1 _ _ y129 ((rd_T83 l0 x3_1).f0) ((rd_T83 l0 x3_1).f1) ((rd_T83 l0 x3_1).f2) ((rd_T83 l0 x3_1).f3) t134 _ ?side1 ?side2 af.out).mono ?_
    (case side1 => exact Cb_ a6)
    (case side2 => exact a9.out)
    rintro e w17 ⟨rfl,hb⟩
    refine ⟨_,rfl,?_⟩
    replace HB:=Z_ (lP_ Lb_ hb)
    (try clear hb)
    (try clear hb2)
    (try clear hk)
    (try clear hi)
    refine hK.out _ _ ⟨(cB_ HB hw133_0),(cB_ HB hw133_1),(cB_ HB hw133_2),(cB_ HB hw133_3)⟩ (fun hHeld => ?_)
    clear hK K
    refine norm_ (a':=?_) ?_ ?_
    rotate_left
    ·show Act.put _ (some 32) _ = _
     simp only [Act.put,lA_,lZ_,lS_,i64_w,i32_w]
     rfl
    refine pure_ (i:=8) (N:=some 33) (v:=?_) (a':=?_) spec_TermsFault.calls.b9 rfl rfl (any_of HT_.out (by kernel_rfl)) (fun _ _ _ h => h) (Or.inl ⟨by rfl,?_⟩) ?_ ?_
    rotate_left
    ·intro w'
     go_simp
     with_reducible rfl
    rotate_left
    ·simp only [Act.put,lA_,lZ_,lS_,i64_w,i32_w]
     rfl
    refine done_ (done_of HT_.out (by kernel_rfl)) ?_
    try go_wp2
    go_ret
    exact ⟨Er_,Lb_⟩
   replace c11b0 : decide (0 ≤ t134) = false:=c11b0
   have H':=Z_ H
   clear H
   try go_wp2
   replace HB:=Z_ (lD_ HB.out)
   have q19 : (x3_1 : Int) ≤ ((l0.length : Int) : Int):=dA_
   obtain ⟨i019,hi019,_,hsz19,_⟩:=info_parts info83
   have hroom19 : l0.length ≤ c0:=aa.out
   have hC19 : Kd.C k83 _ A0 l0.length l0:=a3.out
   try clear a1
   try clear a5
   have a8:=cut_to (P:=Tryz.prog) 30 83 .i64 Tryz.underlying30 hi019 A0 l0.length c0 x3_1 (dA_) q19 hroom19
   have hr19:=Kd.C_take (m:=(x3_1 : Int).toNat) hC19 (by omega)
   have hy19 : y123.length = (x3_1 : Int).toNat:=(by rw [a2.out,List.length_take];omega)
   rw [← a2.out] at hr19
   rw [← hy19] at a8
   have a0:=Z_ hr19
   have a4:=Z_ (show y123.length ≤ c0 from by omega)
   clear hr19 hC19 hroom19 hi019 hsz19
   have KY19:=Z_ hy19
   clear hy19
   replace q19:=eq_true q19
   have p127 : 0 ≤ (x3_1 : Int):=dA_
   have q127 : x3_1 < (l0.length : Int):=dA_
   obtain ⟨ad127,e127,hx127_0,hx127_1,hx127_2,hx127_3⟩:=at_T83 a3.out x3_1 p127 q127
   have hw127_3:=hx127_3
   have hw127_2:=hx127_2
   have hw127_1:=hx127_1
   have hw127_0:=hx127_0
   cases e127
   replace hx127_0:=cB_ HB hx127_0
   replace hx127_1:=cB_ HB hx127_1
   replace hx127_2:=cB_ HB hx127_2
   replace hx127_3:=cB_ HB hx127_3
   replace p127:=eq_true p127
   replace q127:=eq_true q127
   refine start_ (n:=9) (S:=fun w' => w'.cell? (ad127.add ((x3_1).toNat * 4)) = some (.int .i64 ((rd_T83 l0 x3_1).f0)) ∧ w'.cell? ⟨(ad127.add ((x3_1).toNat * 4)).block,(ad127.add ((x3_1).toNat * 4)).off + 1,none⟩ = some (.int .i64 ((rd_T83 l0 x3_1).f1)) ∧ w'.cell? ⟨(ad127.add ((x3_1).toNat * 4)).block,(ad127.add ((x3_1).toNat * 4)).off + 2,none⟩ = some (.int .i64 ((rd_T83 l0 x3_1).f2)) ∧ w'.cell? ⟨(ad127.add ((x3_1).toNat * 4)).block,(ad127.add ((x3_1).toNat * 4)).off + 3,none⟩ = some (.int .i64 ((rd_T83 l0 x3_1).f3))) (ds:=[]) spec_TermsFault.calls.b0 (by kernel_rfl) rfl rfl ⟨(cB_ HB hw127_0),(cB_ HB hw127_1),(cB_ HB hw127_2),(cB_ HB hw127_3)⟩ (fun hHeld => ?_);refine with_tabW spec_TermsFault.tab6 spec_TermsFault.bits6 (fun HT_ HW_ => ?_)
   generalize wr.drew = w18 at HB a0 hx127_0 hx127_1 hx127_2 hx127_3 hHeld ⊢
   refine pure_ (i:=0) (N:=some 14) (v:=?_) (a':=?_) spec_TermsFault.calls.b1 rfl rfl (any_of HT_.out (by kernel_rfl)) (fun _ _ _ h => h) (Or.inl ⟨by rfl,?_⟩) ?_ ?_
   rotate_left
   ·intro w'
    go_simp
    with_reducible rfl
   rotate_left
   ·simp only [Act.put,lA_,lZ_,lS_,i64_w,i32_w]
    rfl
   refine pure_ (i:=1) (N:=some 15) (v:=?_) (a':=?_) spec_TermsFault.calls.b2 rfl rfl (any_of HT_.out (by kernel_rfl)) (fun _ _ _ h => h) (Or.inl ⟨by rfl,?_⟩) ?_ ?_
   rotate_left
   ·intro w'
    go_simp
    with_reducible rfl
   rotate_left
   ·simp only [Act.put,lA_,lZ_,lS_,i64_w,i32_w]
    rfl
   refine pure_ (i:=2) (N:=some 16) (v:=?_) (a':=?_) spec_TermsFault.calls.b3 rfl rfl (any_of HT_.out (by kernel_rfl)) (fun _ _ _ h => h) (Or.inl ⟨by rfl,?_⟩) ?_ ?_
   rotate_left
   ·intro w'
    go_simp
    with_reducible rfl
   rotate_left
   ·simp only [Act.put,lA_,lZ_,lS_,i64_w,i32_w]
    rfl
   refine pure_ (i:=3) (N:=some 17) (v:=?_) (a':=?_) spec_TermsFault.calls.b4 rfl rfl (any_of HT_.out (by kernel_rfl)) (fun _ _ _ h => h) (Or.inl ⟨by rfl,?_⟩) ?_ ?_
   rotate_left
   ·intro w'
    go_simp
    with_reducible rfl
   rotate_left
   ·simp only [Act.put,lA_,lZ_,lS_,i64_w,i32_w]
    rfl
   refine pure_ (i:=4) (N:=some 18) (v:=?_) (a':=?_) spec_TermsFault.calls.b5 rfl rfl (any_of HT_.out (by kernel_rfl)) (fun _ _ _ h => h) (Or.inl ⟨by rfl,?_⟩) ?_ ?_
   rotate_left
   ·intro w'
    go_simp
    with_reducible rfl
   rotate_left
   ·simp only [Act.put,lA_,lZ_,lS_,i64_w,i32_w]
    rfl
   refine pure_ (i:=5) (N:=some 19) (v:=?_) (a':=?_) spec_TermsFault.calls.b6 rfl rfl (any_of HT_.out (by kernel_rfl)) (fun _ _ _ h => h) (Or.inl ⟨by rfl,?_⟩) ?_ ?_
   rotate_left
   ·intro w'
    go_simp
    with_reducible rfl
   rotate_left
   ·simp only [Act.put,lA_,lZ_,lS_,i64_w,i32_w]
    rfl
   refine take_ (i:=6) (N:=some 20) (v:=?_) (a':=?_) spec_TermsFault.calls.b7 rfl rfl (take_ofW HT_.out HW_.out (by kernel_rfl)) (fun _ _ _ h => h) (Or.inl ⟨by rfl,?_⟩) hHeld ?_ ?_
   rotate_left
   ·rintro w' ⟨s0,s1,s2,s3⟩
    go_simp
    with_reducible rfl
   rotate_left
   ·simp only [Act.put,lA_,lZ_,lS_,i64_w,i32_w]
    rfl
   refine one_ (i:=7) (N:=some 21) spec_TermsFault.calls.b8 rfl rfl (one_of HT_.out (by kernel_rfl)) (by decide) (fun K hK => ?_)
   refine goes_ Tryz.func74 (by kernel_rfl) rfl #[.slice (some ad127) y123.length c0,.agg #[.int .i64 ((rd_T83 l0 x3_1).f0),.int .i64 ((rd_T83 l0 x3_1).f1),.int .i64 ((rd_T83 l0 x3_1).f2),.int .i64 ((rd_T83 l0 x3_1).f3)]] (by rfl) rfl rfl (by (try simp only [List.map_toArray,List.map_cons,List.map_nil]);first | done | rfl | (simp only [List.length_drop,List.length_take];rfl)) ?_
   with_reducible refine (spec_l5Term.calls k1 _ _ y123 ((rd_T83 l0 x3_1).f0) ((rd_T83 l0 x3_1).f1) ((rd_T83 l0 x3_1).f2) ((rd_T83 l0 x3_1).f3) t128 _ ?side1 ?side2 A6.out).mono ?_
   (case side1 => exact Cb_ a0)
   (case side2 => exact a4.out)
   rintro e w20 ⟨rfl,hb⟩
   refine ⟨_,rfl,?_⟩
   replace HB:=Z_ (lP_ Lb_ hb)
   (try clear hb)
   (try clear hb2)
   (try clear hk)
   (try clear hi)
   refine hK.out _ _ ⟨(cB_ HB hw127_0),(cB_ HB hw127_1),(cB_ HB hw127_2),(cB_ HB hw127_3)⟩ (fun hHeld => ?_)
   clear hK K
   refine norm_ (a':=?_) ?_ ?_
   rotate_left
   ·show Act.put _ (some 21) _ = _
    simp only [Act.put,lA_,lZ_,lS_,i64_w,i32_w]
    rfl
   refine pure_ (i:=8) (N:=some 4) (v:=?_) (a':=?_) spec_TermsFault.calls.b9 rfl rfl (any_of HT_.out (by kernel_rfl)) (fun _ _ _ h => h) (Or.inl ⟨by rfl,?_⟩) ?_ ?_
   rotate_left
   ·intro w'
    go_simp
    with_reducible rfl
   rotate_left
   ·simp only [Act.put,lA_,lZ_,lS_,i64_w,i32_w]
    rfl
   refine done_ (done_of HT_.out (by kernel_rfl)) ?_
   try go_wp2
   replace HB:=Z_ (lD_ HB.out)
   have q22 : (x3_1 : Int) ≤ ((l0.length : Int) : Int):=dA_
   obtain ⟨i022,hi022,_,hsz22,_⟩:=info_parts info83
   have hroom22 : l0.length ≤ c0:=aa.out
   have hC22 : Kd.C k83 _ (some ad127) l0.length l0:=a3.out
   try clear a1
   try clear a5
   try clear a8
   have ab:=cut_to (P:=Tryz.prog) 30 83 .i64 Tryz.underlying30 hi022 (some ad127) l0.length c0 x3_1 (dA_) q22 hroom22
   have hr22:=Kd.C_take (m:=(x3_1 : Int).toNat) hC22 (by omega)
   have hy22 : y129.length = (x3_1 : Int).toNat:=(by rw [a7.out,List.length_take];omega)
   rw [← a7.out] at hr22
   rw [← hy22] at ab
   have a6:=Z_ hr22
   have a9:=Z_ (show y129.length ≤ c0 from by omega)
   clear hr22 hC22 hroom22 hi022 hsz22
   have KY22:=Z_ hy22
   clear hy22
   replace q22:=eq_true q22
   have p133 : 0 ≤ (x3_1 : Int):=dA_
   have q133 : x3_1 < (l0.length : Int):=dA_
   obtain ⟨ad133,e133,hx133_0,hx133_1,hx133_2,hx133_3⟩:=at_T83 a3.out x3_1 p133 q133
   have hw133_3:=hx133_3
   have hw133_2:=hx133_2
   have hw133_1:=hx133_1
   have hw133_0:=hx133_0
   obtain rfl : ad127 = ad133:=(by injection e133)
   replace hx133_0:=cB_ HB hx133_0
   replace hx133_1:=cB_ HB hx133_1
   replace hx133_2:=cB_ HB hx133_2
   replace hx133_3:=cB_ HB hx133_3
   replace p133:=eq_true p133
   replace q133:=eq_true q133
   refine start_ (n:=9) (S:=fun w' => w'.cell? (ad127.add ((x3_1).toNat * 4)) = some (.int .i64 ((rd_T83 l0 x3_1).f0)) ∧ w'.cell? ⟨(ad127.add ((x3_1).toNat * 4)).block,(ad127.add ((x3_1).toNat * 4)).off + 1,none⟩ = some (.int .i64 ((rd_T83 l0 x3_1).f1)) ∧ w'.cell? ⟨(ad127.add ((x3_1).toNat * 4)).block,(ad127.add ((x3_1).toNat * 4)).off + 2,none⟩ = some (.int .i64 ((rd_T83 l0 x3_1).f2)) ∧ w'.cell? ⟨(ad127.add ((x3_1).toNat * 4)).block,(ad127.add ((x3_1).toNat * 4)).off + 3,none⟩ = some (.int .i64 ((rd_T83 l0 x3_1).f3))) (ds:=[]) spec_TermsFault.calls.b0 (by kernel_rfl) rfl rfl ⟨(cB_ HB hw133_0),(cB_ HB hw133_1),(cB_ HB hw133_2),(cB_ HB hw133_3)⟩ (fun hHeld => ?_);refine with_tabW spec_TermsFault.tab9 spec_TermsFault.bits9 (fun HT_ HW_ => ?_)
   generalize w20.drew = w21 at HB a6 hx133_0 hx133_1 hx133_2 hx133_3 hHeld ⊢
   refine pure_ (i:=0) (N:=some 25) (v:=?_) (a':=?_) spec_TermsFault.calls.b1 rfl rfl (any_of HT_.out (by kernel_rfl)) (fun _ _ _ h => h) (Or.inl ⟨by rfl,?_⟩) ?_ ?_
   rotate_left
   ·intro w'
    go_simp
    with_reducible rfl
   rotate_left
   ·simp only [Act.put,lA_,lZ_,lS_,i64_w,i32_w]
    rfl
   refine pure_ (i:=1) (N:=some 26) (v:=?_) (a':=?_) spec_TermsFault.calls.b2 rfl rfl (any_of HT_.out (by kernel_rfl)) (fun _ _ _ h => h) (Or.inl ⟨by rfl,?_⟩) ?_ ?_
   rotate_left
   ·intro w'
    go_simp
    with_reducible rfl
   rotate_left
   ·simp only [Act.put,lA_,lZ_,lS_,i64_w,i32_w]
    rfl
   refine pure_ (i:=2) (N:=some 27) (v:=?_) (a':=?_) spec_TermsFault.calls.b3 rfl rfl (any_of HT_.out (by kernel_rfl)) (fun _ _ _ h => h) (Or.inl ⟨by rfl,?_⟩) ?_ ?_
   rotate_left
   ·intro w'
    go_simp
    with_reducible rfl
   rotate_left
   ·simp only [Act.put,lA_,lZ_,lS_,i64_w,i32_w]
    rfl
   refine pure_ (i:=3) (N:=some 28) (v:=?_) (a':=?_) spec_TermsFault.calls.b4 rfl rfl (any_of HT_.out (by kernel_rfl)) (fun _ _ _ h => h) (Or.inl ⟨by rfl,?_⟩) ?_ ?_
   rotate_left
   ·intro w'
    go_simp
    with_reducible rfl
   rotate_left
   ·simp only [Act.put,lA_,lZ_,lS_,i64_w,i32_w]
    rfl
   refine pure_ (i:=4) (N:=some 29) (v:=?_) (a':=?_) spec_TermsFault.calls.b5 rfl rfl (any_of HT_.out (by kernel_rfl)) (fun _ _ _ h => h) (Or.inl ⟨by rfl,?_⟩) ?_ ?_
   rotate_left
   ·intro w'
    go_simp
    with_reducible rfl
   rotate_left
   ·simp only [Act.put,lA_,lZ_,lS_,i64_w,i32_w]
    rfl
   refine pure_ (i:=5) (N:=some 30) (v:=?_) (a':=?_) spec_TermsFault.calls.b6 rfl rfl (any_of HT_.out (by kernel_rfl)) (fun _ _ _ h => h) (Or.inl ⟨by rfl,?_⟩) ?_ ?_
   rotate_left
   ·intro w'
    go_simp
    with_reducible rfl
   rotate_left
   ·simp only [Act.put,lA_,lZ_,lS_,i64_w,i32_w]
    rfl
   refine take_ (i:=6) (N:=some 31) (v:=?_) (a':=?_) spec_TermsFault.calls.b7 rfl rfl (take_ofW HT_.out HW_.out (by kernel_rfl)) (fun _ _ _ h => h) (Or.inl ⟨by rfl,?_⟩) hHeld ?_ ?_
   rotate_left
   ·rintro w' ⟨s0,s1,s2,s3⟩
    go_simp
    with_reducible rfl
   rotate_left
   ·simp only [Act.put,lA_,lZ_,lS_,i64_w,i32_w]
    rfl
   refine one_ (i:=7) (N:=some 32) spec_TermsFault.calls.b8 rfl rfl (one_of HT_.out (by kernel_rfl)) (by decide) (fun K hK => ?_)
   refine goes_ Tryz.func75 (by kernel_rfl) rfl #[.slice (some ad127) y129.length c0,.agg #[.int .i64 ((rd_T83 l0 x3_1).f0),.int .i64 ((rd_T83 l0 x3_1).f1),.int .i64 ((rd_T83 l0 x3_1).f2),.int .i64 ((rd_T83 l0 x3_1).f3)]] (by rfl) rfl rfl (by (try simp only [List.map_toArray,List.map_cons,List.map_nil]);first | done | rfl | (simp only [List.length_drop,List.length_take];rfl)) ?_
   with_reducible refine (spec_l5Find.calls k1 _ _ y129 ((rd_T83 l0 x3_1).f0) ((rd_T83 l0 x3_1).f1) ((rd_T83 l0 x3_1).f2) ((rd_T83 l0 x3_1).f3) t134 _ ?side1 ?side2 af.out).mono ?_
   (case side1 => exact Cb_ a6)
   (case side2 => exact a9.out)
   rintro e w23 ⟨rfl,hb⟩
   refine ⟨_,rfl,?_⟩
   replace HB:=Z_ (lP_ Lb_ hb)
   (try clear hb)
   (try clear hb2)
   (try clear hk)
   (try clear hi)
   refine hK.out _ _ ⟨(cB_ HB hw133_0),(cB_ HB hw133_1),(cB_ HB hw133_2),(cB_ HB hw133_3)⟩ (fun hHeld => ?_)
   clear hK K
   refine norm_ (a':=?_) ?_ ?_
   rotate_left
   ·show Act.put _ (some 32) _ = _
    simp only [Act.put,lA_,lZ_,lS_,i64_w,i32_w]
    rfl
   refine pure_ (i:=8) (N:=some 33) (v:=?_) (a':=?_) spec_TermsFault.calls.b9 rfl rfl (any_of HT_.out (by kernel_rfl)) (fun _ _ _ h => h) (Or.inl ⟨by rfl,?_⟩) ?_ ?_
   rotate_left
   ·intro w'
    go_simp
    with_reducible rfl
   rotate_left
   ·simp only [Act.put,lA_,lZ_,lS_,i64_w,i32_w]
    rfl
   refine done_ (done_of HT_.out (by kernel_rfl)) ?_
   try go_wp2
   go_roundg k1
   case measure => have:=HK1.out;omega
   case rel => exact ⟨(wrap64 (x3_1 + 1)),Sr_,H',⟨by have:=HK1.out;omega⟩,⟨Lb_⟩⟩
def spec_l9Word.f (a0 : Int) : Option (Bool):=(spec_l1In.f a0 0 9999).bind fun t136 => (some t136)
set_option maxHeartbeats 8000000 in
set_option maxRecDepth 100000 in
theorem spec_l9Word.calls (a0 : Int) (r : Bool) (w : World) (h : spec_l9Word.f a0 = some r) :
  Calls Tryz.prog 92 #[.int .i64 a0] w fun e w' => e = .returned (.bool r) ∧ Drawn0 w w':=by
 unfold spec_l9Word.f at h
 have H:=h
 clear h
 replace H:=bS_ H
 obtain ⟨t136,A2,H⟩:=H
 obtain rfl:=Option.some.inj H
 go_enter Tryz.func92,Tryz.ntmps92
 go_wp2_with (first | ((with_reducible refine gate_callee (f:=47) rfl ?_);refine goesA_ (some 4) rfl rfl Tryz.func47 (by kernel_rfl) rfl #[.int .i64 a0,.int .i64 0,.int .i64 9999] rfl ?_;(with_reducible refine (spec_l1In.calls a0 0 9999 t136 _ A2.out).mono ?_);rintro e w' ⟨rfl,⟨nd,rfl⟩⟩;refine ⟨_,rfl,?_⟩))
 go_ret
 exact ⟨by first | rfl | (simp;done) | (simp [*];done),by repeat (first | exact Drawn0.refl _ | apply Drawn0.step)⟩
mutual
def spec_WindowFault.j0 : Nat → Bool → Int → Int → Option (Int)
 | 0,_,_,_ => none
 | k + 1,x13,x138000,x138001 => if x13 = true then (some 3) else (if x138000 = 0 then (if x138001 = 0 then (if x138000 > 0 then (spec_WindowFault.j1 k ((Go.bits .and .i64 x138001 1) == 0) x138000 x138001) else (spec_WindowFault.j1 k false x138000 x138001)) else (spec_WindowFault.j1 k true x138000 x138001)) else (if x138000 > 0 then (spec_WindowFault.j1 k ((Go.bits .and .i64 x138001 1) == 0) x138000 x138001) else (spec_WindowFault.j1 k false x138000 x138001)))
def spec_WindowFault.j1 : Nat → Bool → Int → Int → Option (Int)
 | 0,_,_,_ => none
 | k + 1,x32,x138000,x138001 => if x32 = true then (some 1) else (spec_WindowFault.l0 k 0 x138000 x138001)
def spec_WindowFault.l0 : Nat → Int → Int → Int → Option (Int)
 | 0,_,_,_ => none
 | k + 1,x3,x138000,x138001 => if x3 < 32 then (if 0 ≤ (IntKind.u64.wrap (x3)) then (if (Go.bits .and .i64 (shr .i64 x138001 (IntKind.u64.wrap (x3))) 1) = 1 then (if (wrap64 (x138000 - x3)) < 1 then (some 1) else (spec_WindowFault.l0 k (wrap64 (x3 + 1)) x138000 x138001)) else (spec_WindowFault.l0 k (wrap64 (x3 + 1)) x138000 x138001)) else (none)) else (some 0)
end
def spec_WindowFault.f (k : Nat) (a0_0 a0_1 : Int) : Option (Int):=(spec_l1In.f a0_0 0 1099511627776).bind fun t138 => (if t138 = true then ((spec_l1In.f a0_1 0 4294967295).bind fun t139 => (spec_WindowFault.j0 k (!t139) a0_0 a0_1)) else (spec_WindowFault.j0 k true a0_0 a0_1))
set_option maxHeartbeats 8000000 in
set_option maxRecDepth 100000 in
theorem spec_WindowFault.calls (k : Nat) (a0_0 a0_1 r : Int) (w : World) (h : spec_WindowFault.f k a0_0 a0_1 = some r) :
  Calls Tryz.prog 93 #[.agg #[.int .i64 a0_0,.int .i64 a0_1]] w fun e w' => e = .returned (.int .i64 r) ∧ Below w.heap.size w w':=by
 have hu112:=Tryz.underlying112
 have HB:=Z_ (Below.refl w.heap.size w)
 unfold spec_WindowFault.f at h
 have H:=h
 clear h
 have a4:=Z_ H
 clear H
 go_enter Tryz.func93,Tryz.ntmps93
 go_upto_region 1 with (first | ((with_reducible refine gD_ 1 rfl ?_);refine bx_ #[.int .i64 a0_0,.int .i64 a0_1] 112 ?_;intro a2 hg w3 hbox hb;have a0:=Z_ hbox;have a7:=Z_ ((by rw [hg];exact (below_size Lb_) : w.heap.size ≤ a2));have a1:=Z_ ((by rw [hg];exact (below_size Lb_) : w.heap.size ≤ a2));replace HB:=Z_ (lP_ Lb_ hb);clear hb hbox hg))
 (try simp only [Act.put,lA_,lZ_,lS_])
 go_cut [13] (fun v13 wc => ∃ (kq : Nat) (x13_1 : Bool),v13 = .bool x13_1 ∧ Aside0 (spec_WindowFault.j0 kq x13_1 a0_0 a0_1 = some r) ∧ Aside0 (kq ≤ k) ∧ Aside0 (wc.heap[a2]? = some (.cells #[.int .i64 a0_0,.int .i64 a0_1] 112 (0,0))) ∧ Aside0 (Below w.heap.size w wc))
 case first =>
  have H:=a4.out
  clear a4
  replace H:=bS_ H
  obtain ⟨t138,A4,H⟩:=H
  replace H:=iB_ H
  obtain ⟨rfl,H⟩ | ⟨rfl,H⟩:=H
  replace H:=bS_ H
  obtain ⟨t139,A6,H⟩:=H
  all_goals
   have H':=Z_ H
   clear H
   obtain ⟨_,_,_,_⟩:=bc2 a0.out
   go_wp2_with (first | ((with_reducible refine gate_callee (f:=47) rfl ?_);refine goesA_ (some 6) rfl rfl Tryz.func47 (by kernel_rfl) rfl #[.int .i64 a0_0,.int .i64 0,.int .i64 1099511627776] rfl ?_;(with_reducible refine (spec_l1In.calls a0_0 0 1099511627776 _ _ A4.out).mono ?_);rintro e w' ⟨rfl,⟨nd,rfl⟩⟩;refine ⟨_,rfl,?_⟩) | (go_at_call 47;(with_reducible refine (spec_l1In.calls a0_1 0 4294967295 t139 _ A6.out).mono ?_);rintro e w' ⟨rfl,⟨nd,rfl⟩⟩))
   go_meet
   case rel => exact ⟨_,_,Sr_,H',Ol_,⟨Bk_ a0⟩,⟨Lb_⟩⟩
 case rest =>
  clear a4
  try clear p2
  try clear c4
  try clear c5
  obtain ⟨kq,x13_1,rfl,HA,HJ1,a0,HB⟩:=hcut
  cases kq with
  | zero => exact absurd HA.out (by simp [spec_WindowFault.j0])
  | succ kj1 =>
   have H:=HA.out
   clear HA
   simp only [spec_WindowFault.j0] at H
   replace H:=iB_ H
   obtain ⟨rfl,H⟩ | ⟨rfl,H⟩:=H
   ·obtain rfl:=Option.some.inj H
    go_wp2
    go_ret
    exact ⟨Er_,Lb_⟩
   have a3:=Z_ H
   clear H
   go_upto_region 3 with (fail)
   go_cut [32] (fun v32 wc => ∃ (kq : Nat) (x32_9 : Bool),v32 = .bool x32_9 ∧ Aside0 (spec_WindowFault.j1 kq x32_9 a0_0 a0_1 = some r) ∧ Aside0 (kq ≤ kj1) ∧ Aside0 (wc.heap[a2]? = some (.cells #[.int .i64 a0_0,.int .i64 a0_1] 112 (0,0))) ∧ Aside0 (Below w.heap.size w wc))
   case first =>
    have H:=a3.out
    clear a3
    replace H:=iE_ H
    obtain ⟨c11b0,c11b1,H⟩ | ⟨c11b0,c11b1,H⟩:=H
    rotate_left
    focus
     (first | rw [c11b0] | (simp only [i64_w,i32_w];rw [c11b0]) | skip)
     replace H:=iD_ H
     obtain ⟨c17b0,H⟩ | ⟨c17b0,H⟩:=H
     rotate_left
     focus replace c17b0 : decide (0 < a0_0) = false:=c17b0
     rotate_right
     replace c17b0 : decide (0 < a0_0) = true:=c17b0
    rotate_right
    (first | rw [c11b0] | (simp only [i64_w,i32_w];rw [c11b0]) | skip)
    replace H:=iE_ H
    obtain ⟨c12b0,c12b1,H⟩ | ⟨c12b0,c12b1,H⟩:=H
    replace H:=iD_ H
    obtain ⟨c13b0,H⟩ | ⟨c13b0,H⟩:=H
    rotate_left
    focus replace c13b0 : decide (0 < a0_0) = false:=c13b0
    rotate_right
    replace c13b0 : decide (0 < a0_0) = true:=c13b0
    all_goals
     have H':=Z_ H
     clear H
     obtain ⟨_,_,_,_⟩:=bc2 a0.out
     go_wp2
     go_meet
     case rel => exact ⟨_,_,Sr_,H',⟨by have:=HJ1.out;first | omega | exact Nat.le_refl _⟩,⟨Bk_ a0⟩,⟨Lb_⟩⟩
   case rest =>
    clear a3
    try clear c1
    try clear p2
    try clear c4
    try clear c5
    try clear c9
    try clear c11
    try clear c11b0
    try clear c11b1
    try clear c12
    try clear c12b0
    try clear c12b1
    try clear c13
    try clear c13b0
    try clear c17
    try clear c17b0
    try clear p2
    obtain ⟨kq,x32_9,rfl,HA,HJ9,a0,HB⟩:=hcut
    cases kq with
    | zero => exact absurd HA.out (by simp [spec_WindowFault.j1])
    | succ kj9 =>
     have H:=HA.out
     clear HA
     simp only [spec_WindowFault.j1] at H
     replace H:=iB_ H
     obtain ⟨rfl,H⟩ | ⟨rfl,H⟩:=H
     ·obtain rfl:=Option.some.inj H
      go_wp2
      go_ret
      exact ⟨Er_,Lb_⟩
     have H':=Z_ H
     clear H
     go_wp2
     go_loopg [3] kj9 (fun kq v3 w' => ∃ (x3_3 : Int),v3 = .int .i64 x3_3 ∧ Aside0 (spec_WindowFault.l0 kq x3_3 a0_0 a0_1 = some r) ∧ Aside0 (kq ≤ kj9) ∧ Aside0 (w'.heap[a2]? = some (.cells #[.int .i64 a0_0,.int .i64 a0_1] 112 (0,0))) ∧ Aside0 (Below w.heap.size w w'))
     case atStart => exact ⟨(0),Sr_,H',⟨Nat.le_refl _⟩,⟨Bk_ a0⟩,⟨Lb_⟩⟩
     case round =>
      clear H'
      try clear c1
      try clear c2
      try clear p2
      try clear c4
      try clear c5
      try clear c9
      try clear c11
      try clear c11b0
      try clear c11b1
      try clear c12
      try clear c12b0
      try clear c12b1
      try clear c13
      try clear c13b0
      try clear c17
      try clear c17b0
      try clear c20
      try clear p2
      obtain ⟨x3_3,rfl,HA,HK3,a0,HB⟩:=hrel
      cases gk with
      | zero => exact absurd HA.out (by simp [spec_WindowFault.l0])
      | succ k3 =>
       have H:=HA.out
       clear HA
       simp only [spec_WindowFault.l0] at H
       replace H:=iD_ H
       obtain ⟨c21b0,H⟩ | ⟨c21b0,H⟩:=H
       rotate_left
       ·obtain rfl:=Option.some.inj H
        go_wp2
        go_ret
        exact ⟨Er_,Lb_⟩
       rotate_right
       obtain ⟨ji22,hji22⟩ : ∃ j_ : Int,(IntKind.u64.wrap (x3_3)) = j_:=⟨_,rfl⟩
       replace H : (if 0 ≤ (ji22) then (if (Go.bits .and .i64 (shr .i64 a0_1 (ji22)) 1) = 1 then (if (wrap64 (a0_0 - x3_3)) < 1 then (some 1) else (spec_WindowFault.l0 k3 (wrap64 (x3_3 + 1)) a0_0 a0_1)) else (spec_WindowFault.l0 k3 (wrap64 (x3_3 + 1)) a0_0 a0_1)) else (none)) = some r:=by first | (rw [hji22] at H;exact H) | (simp only [hji22] at H ⊢;exact H)
       replace H:=iN_ H
       obtain ⟨c23,H⟩:=H
       have c23b0:=eq_true c23
       have c23b1 : decide (0 ≤ (ji22)) = true:=decide_eq_true c23
       clear c23
       obtain ⟨ji24,hji24⟩ : ∃ j_ : Int,(shr .i64 a0_1 (ji22)) = j_:=⟨_,rfl⟩
       replace H : (if (Go.bits .and .i64 (ji24) 1) = 1 then (if (wrap64 (a0_0 - x3_3)) < 1 then (some 1) else (spec_WindowFault.l0 k3 (wrap64 (x3_3 + 1)) a0_0 a0_1)) else (spec_WindowFault.l0 k3 (wrap64 (x3_3 + 1)) a0_0 a0_1)) = some r:=by first | (rw [hji24] at H;exact H) | (simp only [hji24] at H ⊢;exact H)
       have hji24_ : (a0_1 / 2 ^ min (ji22).toNat 64) = ji24:=hji24
       have hji24z : (ji22) ≤ 64 → (a0_1 / 2 ^ (ji22).toNat) = ji24:=shr_small hji24
       replace H:=iE_ H
       obtain ⟨c25b0,c25b1,H⟩ | ⟨c25b0,c25b1,H⟩:=H
       replace H:=iD_ H
       obtain ⟨c26b0,H⟩ | ⟨c26b0,H⟩:=H
       ·obtain rfl:=Option.some.inj H
        obtain ⟨_,_,_,_⟩:=bc2 a0.out
        go_wp2
        go_ret
        exact ⟨by first | rfl | (simp [errW_none,errW_some] <;> rfl) | (simp only [← hji22,← hji24];first | rfl | (simp [errW_none,errW_some] <;> rfl)) | (simp [*,errW_none,errW_some] <;> rfl),Lb_⟩
       all_goals
        have H':=Z_ H
        clear H
        obtain ⟨_,_,_,_⟩:=bc2 a0.out
        go_wp2
        go_roundg k3
        case measure => have:=HJ1.out;have:=HJ9.out;have:=HK3.out;omega
        case rel => exact ⟨_,Sr_,H',⟨by have:=HJ1.out;have:=HJ9.out;have:=HK3.out;omega⟩,⟨Bk_ a0⟩,⟨Lb_⟩⟩
theorem eqA112 (d : Nat) (w : World) (x0 y0 x1 y1 : Int) :
    (Op.equalIn (d + 2) 112 (.agg #[.int .i64 x0,.int .i64 x1]) (.agg #[.int .i64 y0,.int .i64 y1])).run Tryz.prog w = .ok (x0 == y0 && (x1 == y1)) w:=by
  refine eqA_of Tryz.underlying112 (by kernel_rfl) ?_
  refine eqf_cons (by rfl) (by go_simp;rfl) (by go_simp;rfl) (by go_simp) ?_
  exact eqf_last (by rfl) (by go_simp;rfl) (by go_simp;rfl) (by go_simp)
end Go.Proofs.YtcafikgabidphaaGreat.G
namespace Go.Proofs.YtcafikgabidphaaGreat.G
open Go.RowKit Go.Proofs.YtcafikgabidphaaGreatW.PrintWords Go.Proofs.YtcafikgabidphaaGreatW.PrintLast Go.Proofs.YtcafikgabidphaaGreatW.PrintMore
attribute [local go_sem] max2_int min2_int max_two min_two max_three min_three max_four min_four   -- for this text's walks alone
set_option linter.unusedVariables false
set_option linter.unusedSimpArgs false
attribute [local go_sem high] eqA112
def spec_l11Shape.j0 : Nat → Bool → Int → Int → Int → Int → Int → Int → Int → Int → Int → Int → Int → Int → Int → Int → Int → Int → Int → Int → Int → Int → Option (Bool)
 | 0,_,_,_,_,_,_,_,_,_,_,_,_,_,_,_,_,_,_,_,_,_ => none
 | k + 1,x11,x141000,x141001,x141002,x141003,x141004,x141005,x141006,x141007,x141008,x141009,x141010,x141011,x141012,x141013,x141014,x141015,x141016,x141017,x141018,x141019 => if x11 = true then (some false) else (if x141001 = 1 then (if (true != (x141000 != 0)) = true then (some false) else (if x141002 = 3 then (some true) else (if x141017 = 0 then (some (x141018 == 0 && (x141019 == 0))) else (some false)))) else (if ((x141002 == 3) != (x141000 != 0)) = true then (some false) else (if x141002 = 3 then (some true) else (if x141017 = 0 then (some (x141018 == 0 && (x141019 == 0))) else (some false)))))
def spec_l11Shape.f (k : Nat) (a0_0 a0_1 a0_2 a0_3 a0_4 a0_5 a0_6 a0_7 a0_8 a0_9 a0_10 a0_11 a0_12 a0_13 a0_14 a0_15 a0_16 a0_17 a0_18 a0_19 : Int) : Option (Bool):=if a0_1 = 2 then (spec_l11Shape.j0 k (a0_2 == 1) a0_0 a0_1 a0_2 a0_3 a0_4 a0_5 a0_6 a0_7 a0_8 a0_9 a0_10 a0_11 a0_12 a0_13 a0_14 a0_15 a0_16 a0_17 a0_18 a0_19) else (spec_l11Shape.j0 k false a0_0 a0_1 a0_2 a0_3 a0_4 a0_5 a0_6 a0_7 a0_8 a0_9 a0_10 a0_11 a0_12 a0_13 a0_14 a0_15 a0_16 a0_17 a0_18 a0_19)
set_option maxHeartbeats 8000000 in
set_option maxRecDepth 100000 in
theorem spec_l11Shape.calls (k : Nat) (a0_0 a0_1 a0_2 a0_3 a0_4 a0_5 a0_6 a0_7 a0_8 a0_9 a0_10 a0_11 a0_12 a0_13 a0_14 a0_15 a0_16 a0_17 a0_18 a0_19 : Int) (r : Bool) (w : World) (h : spec_l11Shape.f k a0_0 a0_1 a0_2 a0_3 a0_4 a0_5 a0_6 a0_7 a0_8 a0_9 a0_10 a0_11 a0_12 a0_13 a0_14 a0_15 a0_16 a0_17 a0_18 a0_19 = some r) :
  Calls Tryz.prog 94 #[.agg #[.int .i64 a0_0,.int .i64 a0_1,.int .i64 a0_2,.int .i64 a0_3,.int .i64 a0_4,.int .i64 a0_5,.int .i64 a0_6,.int .i64 a0_7,.int .i64 a0_8,.int .i64 a0_9,.int .i64 a0_10,.int .i64 a0_11,.int .i64 a0_12,.int .i64 a0_13,.int .i64 a0_14,.int .i64 a0_15,.int .i64 a0_16,.int .i64 a0_17,.int .i64 a0_18,.int .i64 a0_19]] w fun e w' => e = .returned (.bool r) ∧ Below w.heap.size w w':=by
 have hu114:=Tryz.underlying114
 have hu112:=Tryz.underlying112
 have HB:=Z_ (Below.refl w.heap.size w)
 unfold spec_l11Shape.f at h
 have H:=h
 clear h
 have a3:=Z_ H
 clear H
 go_enter Tryz.func94,Tryz.ntmps94
 go_upto_region 1 with (first | ((with_reducible refine gD_ 1 rfl ?_);refine bx_ #[.int .i64 a0_0,.int .i64 a0_1,.int .i64 a0_2,.int .i64 a0_3,.int .i64 a0_4,.int .i64 a0_5,.int .i64 a0_6,.int .i64 a0_7,.int .i64 a0_8,.int .i64 a0_9,.int .i64 a0_10,.int .i64 a0_11,.int .i64 a0_12,.int .i64 a0_13,.int .i64 a0_14,.int .i64 a0_15,.int .i64 a0_16,.int .i64 a0_17,.int .i64 a0_18,.int .i64 a0_19] 114 ?_;intro a2 hg w3 hbox hb;have a0:=Z_ hbox;have a4:=Z_ ((by rw [hg];exact (below_size Lb_) : w.heap.size ≤ a2));have a1:=Z_ ((by rw [hg];exact (below_size Lb_) : w.heap.size ≤ a2));replace HB:=Z_ (lP_ Lb_ hb);clear hb hbox hg))
 (try simp only [Act.put,lA_,lZ_,lS_])
 go_cut [11] (fun v11 wc => ∃ (kq : Nat) (x11_1 : Bool),v11 = .bool x11_1 ∧ Aside0 (spec_l11Shape.j0 kq x11_1 a0_0 a0_1 a0_2 a0_3 a0_4 a0_5 a0_6 a0_7 a0_8 a0_9 a0_10 a0_11 a0_12 a0_13 a0_14 a0_15 a0_16 a0_17 a0_18 a0_19 = some r) ∧ Aside0 (kq ≤ k) ∧ Aside0 (wc.heap[a2]? = some (.cells #[.int .i64 a0_0,.int .i64 a0_1,.int .i64 a0_2,.int .i64 a0_3,.int .i64 a0_4,.int .i64 a0_5,.int .i64 a0_6,.int .i64 a0_7,.int .i64 a0_8,.int .i64 a0_9,.int .i64 a0_10,.int .i64 a0_11,.int .i64 a0_12,.int .i64 a0_13,.int .i64 a0_14,.int .i64 a0_15,.int .i64 a0_16,.int .i64 a0_17,.int .i64 a0_18,.int .i64 a0_19] 114 (0,0))) ∧ Aside0 (Below w.heap.size w wc))
 case first =>
  have H:=a3.out
  clear a3
  replace H:=iE_ H
  obtain ⟨c4b0,c4b1,H⟩ | ⟨c4b0,c4b1,H⟩:=H
  all_goals
   (first | rw [c4b0] | (simp only [i64_w,i32_w];rw [c4b0]) | skip)
   have H':=Z_ H
   clear H
   obtain ⟨_,_,_,_,_,_,_,_,_,_,_,_,_,_,_,_,_,_,_,_,_,_,_,_,_,_,_,_,_,_,_,_,_,_,_,_,_,_,_,_⟩:=bc20 a0.out
   go_wp2
   go_meet
   case rel => exact ⟨_,_,Sr_,H',Ol_,⟨Bk_ a0⟩,⟨Lb_⟩⟩
 case rest =>
  clear a3
  try clear p2
  try clear c4
  try clear c4b0
  try clear c4b1
  obtain ⟨kq,x11_1,rfl,HA,HJ1,a0,HB⟩:=hcut
  cases kq with
  | zero => exact absurd HA.out (by simp [spec_l11Shape.j0])
  | succ kj1 =>
   have H:=HA.out
   clear HA
   simp only [spec_l11Shape.j0] at H
   replace H:=iB_ H
   obtain ⟨rfl,H⟩ | ⟨rfl,H⟩:=H
   rotate_left
   replace H:=iE_ H
   obtain ⟨c8b0,c8b1,H⟩ | ⟨c8b0,c8b1,H⟩:=H
   focus
    replace H:=iC_ H
    obtain ⟨c9,H⟩ | ⟨c9,H⟩:=H
    focus
     have c9b0 : (true != (a0_0 != 0)) = true:=c9
     (try (have c9b1 : decide (true = (a0_0 != 0)) = false:=by simpa using c9))
     (try (have c9b2 : (true == (a0_0 != 0)) = false:=by simpa using c9))
     (try (have c9b3 : ¬ (true = (a0_0 != 0)):=by simpa using c9))
     clear c9
    rotate_left
    have c9b0 : (true != (a0_0 != 0)) = false:=by simpa using c9
    (try (have c9b1 : decide (true = (a0_0 != 0)) = true:=by simpa using c9))
    (try (have c9b2 : (true == (a0_0 != 0)) = true:=by simpa using c9))
    clear c9
    replace H:=iE_ H
    obtain ⟨c11b0,c11b1,H⟩ | ⟨c11b0,c11b1,H⟩:=H
    rotate_left
    replace H:=iE_ H
    obtain ⟨c13b0,c13b1,H⟩ | ⟨c13b0,c13b1,H⟩:=H
   rotate_left 4
   replace H:=iC_ H
   obtain ⟨c16,H⟩ | ⟨c16,H⟩:=H
   focus
    have c16b0 : ((a0_2 == 3) != (a0_0 != 0)) = true:=c16
    (try (have c16b1 : decide ((a0_2 == 3) = (a0_0 != 0)) = false:=by simpa using c16))
    (try (have c16b2 : ((a0_2 == 3) == (a0_0 != 0)) = false:=by simpa using c16))
    (try (have c16b3 : ¬ ((a0_2 == 3) = (a0_0 != 0)):=by simpa using c16))
    clear c16
   rotate_left
   have c16b0 : ((a0_2 == 3) != (a0_0 != 0)) = false:=by simpa using c16
   (try (have c16b1 : decide ((a0_2 == 3) = (a0_0 != 0)) = true:=by simpa using c16))
   (try (have c16b2 : ((a0_2 == 3) == (a0_0 != 0)) = true:=by simpa using c16))
   clear c16
   replace H:=iC_ H
   obtain ⟨c18,H⟩ | ⟨c18,H⟩:=H
   rotate_left
   focus
    have c18b0 : (a0_2 == 3) = false:=beq_eq_false_iff_ne.mpr c18
    have c18b1 : (a0_2 != 3) = true:=bne_iff_ne.mpr c18
    have cx1 : (a0_0 != 0) = false:=by simpa [c18b0] using c16b2
    have cx2 : (a0_0 == 0) = true:=by simpa using cx1
    replace H:=iE_ H
    obtain ⟨c20b0,c20b1,H⟩ | ⟨c20b0,c20b1,H⟩:=H
   rotate_right
   ·have c18b0 : (a0_2 == 3) = true:=beq_iff_eq.mpr c18
    have c18b1 : (a0_2 != 3) = false:=bne_eq_false_iff_eq.mpr c18
    have cx1 : (a0_0 != 0) = true:=by simpa [c18b0] using c16b2
    have cx2 : (a0_0 == 0) = false:=by simpa using cx1
    clear c18
    obtain rfl:=Option.some.inj H
    obtain ⟨_,_,_,_,_,_,_,_,_,_,_,_,_,_,_,_,_,_,_,_,_,_,_,_,_,_,_,_,_,_,_,_,_,_,_,_,_,_,_,_⟩:=bc20 a0.out
    go_wp2
    go_ret
    exact ⟨Er_,Lb_⟩
   all_goals
    obtain rfl:=Option.some.inj H
    try obtain ⟨_,_,_,_,_,_,_,_,_,_,_,_,_,_,_,_,_,_,_,_,_,_,_,_,_,_,_,_,_,_,_,_,_,_,_,_,_,_,_,_⟩:=bc20 a0.out
    go_wp2
    go_ret
    exact ⟨Er_,Lb_⟩
end Go.Proofs.YtcafikgabidphaaGreat.G
namespace Go.Proofs.YtcafikgabidphaaGreat.G
open Go.RowKit Go.Proofs.YtcafikgabidphaaGreatW.PrintWords Go.Proofs.YtcafikgabidphaaGreatW.PrintLast Go.Proofs.YtcafikgabidphaaGreatW.PrintMore
attribute [local go_sem] max2_int min2_int max_two min_two max_three min_three max_four min_four   -- for this text's walks alone
set_option linter.unusedVariables false
set_option linter.unusedSimpArgs false
def spec_l11Must.f (a0_0 a0_1 a0_2 a0_3 a0_4 a0_5 a0_6 a0_7 a0_8 a0_9 a0_10 a0_11 a0_12 a0_13 a0_14 a0_15 a0_16 a0_17 a0_18 a0_19 : Int) : Option (List Int × List Int):=(some (([a0_5,a0_7,a0_9] : List Int) : List Int)).bind fun y142 => ((some (([a0_6,a0_8,a0_10,a0_11,a0_12,a0_13,a0_14] : List Int) : List Int)).bind fun y145 => ((some (([a0_15,a0_16] : List Int) : List Int)).bind fun y148 => (if a0_2 = 1 then (if y145.length + y148.length < 17592186044416 then (some (y142,(y145 ++ y148))) else (none)) else (if a0_2 = 2 then (if y142.length + y145.length < 17592186044416 then (some ((y142 ++ y145),y148)) else (none)) else (if y142.length + y145.length < 17592186044416 then ((some (y142 ++ y145 : List Int)).bind fun y157 => (if y157.length + y148.length < 17592186044416 then (some ((y157 ++ y148),([] : List Int))) else (none))) else (none))))))
set_option maxHeartbeats 8000000 in
set_option maxRecDepth 100000 in
theorem spec_l11Must.calls (a0_0 a0_1 a0_2 a0_3 a0_4 a0_5 a0_6 a0_7 a0_8 a0_9 a0_10 a0_11 a0_12 a0_13 a0_14 a0_15 a0_16 a0_17 a0_18 a0_19 : Int) (r1 r2 : List Int) (w : World) (h : spec_l11Must.f a0_0 a0_1 a0_2 a0_3 a0_4 a0_5 a0_6 a0_7 a0_8 a0_9 a0_10 a0_11 a0_12 a0_13 a0_14 a0_15 a0_16 a0_17 a0_18 a0_19 = some (r1,r2)) :
  Calls Tryz.prog 95 #[.agg #[.int .i64 a0_0,.int .i64 a0_1,.int .i64 a0_2,.int .i64 a0_3,.int .i64 a0_4,.int .i64 a0_5,.int .i64 a0_6,.int .i64 a0_7,.int .i64 a0_8,.int .i64 a0_9,.int .i64 a0_10,.int .i64 a0_11,.int .i64 a0_12,.int .i64 a0_13,.int .i64 a0_14,.int .i64 a0_15,.int .i64 a0_16,.int .i64 a0_17,.int .i64 a0_18,.int .i64 a0_19]] w fun e w' => ∃ v0_ v1_ : Value,e = .returned (.tuple #[v0_,v1_]) ∧ Kd.R (Kd.int .i64) 2 w' w.heap.size (fun k_ => some k_ ≠ (v1_ : Value).ownBlock) v0_ r1 ∧ Kd.R (Kd.int .i64) 2 w' w.heap.size (fun k_ => some k_ ≠ (v0_ : Value).ownBlock) v1_ r2 ∧ Below w.heap.size w w':=by
 have hu114:=Tryz.underlying114
 have HB:=Z_ (Below.refl w.heap.size w)
 unfold spec_l11Must.f at h
 have H:=h
 clear h
 obtain ⟨y142,hy142⟩ : ∃ y_ : List Int,y_ = (([a0_5,a0_7,a0_9] : List Int)):=⟨_,rfl⟩
 replace H : ((some (([a0_6,a0_8,a0_10,a0_11,a0_12,a0_13,a0_14] : List Int) : List Int)).bind fun y145 => ((some (([a0_15,a0_16] : List Int) : List Int)).bind fun y148 => (if a0_2 = 1 then (if y145.length + y148.length < 17592186044416 then (some (y142,(y145 ++ y148))) else (none)) else (if a0_2 = 2 then (if y142.length + y145.length < 17592186044416 then (some ((y142 ++ y145),y148)) else (none)) else (if y142.length + y145.length < 17592186044416 then ((some (y142 ++ y145 : List Int)).bind fun y157 => (if y157.length + y148.length < 17592186044416 then (some ((y157 ++ y148),([] : List Int))) else (none))) else (none)))))) = some (r1,r2):=by first | (rw [hy142];with_reducible exact H) | (have H2_:=(Option.bind_some _ _).symm.trans H;rw [hy142];with_reducible exact H2_) | (have H2_:=(Option.bind_some _ _).symm.trans H;with_reducible exact H2_) | with_reducible exact H | (rw [hy142];exact H) | exact H
 have a5:=Z_ hy142
 clear hy142
 obtain ⟨y145,hy145⟩ : ∃ y_ : List Int,y_ = (([a0_6,a0_8,a0_10,a0_11,a0_12,a0_13,a0_14] : List Int)):=⟨_,rfl⟩
 replace H : ((some (([a0_15,a0_16] : List Int) : List Int)).bind fun y148 => (if a0_2 = 1 then (if y145.length + y148.length < 17592186044416 then (some (y142,(y145 ++ y148))) else (none)) else (if a0_2 = 2 then (if y142.length + y145.length < 17592186044416 then (some ((y142 ++ y145),y148)) else (none)) else (if y142.length + y145.length < 17592186044416 then ((some (y142 ++ y145 : List Int)).bind fun y157 => (if y157.length + y148.length < 17592186044416 then (some ((y157 ++ y148),([] : List Int))) else (none))) else (none))))) = some (r1,r2):=by first | (rw [hy145];with_reducible exact H) | (have H2_:=(Option.bind_some _ _).symm.trans H;rw [hy145];with_reducible exact H2_) | (have H2_:=(Option.bind_some _ _).symm.trans H;with_reducible exact H2_) | with_reducible exact H | (rw [hy145];exact H) | exact H
 have a6:=Z_ hy145
 clear hy145
 obtain ⟨y148,hy148⟩ : ∃ y_ : List Int,y_ = (([a0_15,a0_16] : List Int)):=⟨_,rfl⟩
 replace H : (if a0_2 = 1 then (if y145.length + y148.length < 17592186044416 then (some (y142,(y145 ++ y148))) else (none)) else (if a0_2 = 2 then (if y142.length + y145.length < 17592186044416 then (some ((y142 ++ y145),y148)) else (none)) else (if y142.length + y145.length < 17592186044416 then ((some (y142 ++ y145 : List Int)).bind fun y157 => (if y157.length + y148.length < 17592186044416 then (some ((y157 ++ y148),([] : List Int))) else (none))) else (none)))) = some (r1,r2):=by first | (rw [hy148];with_reducible exact H) | (have H2_:=(Option.bind_some _ _).symm.trans H;rw [hy148];with_reducible exact H2_) | (have H2_:=(Option.bind_some _ _).symm.trans H;with_reducible exact H2_) | with_reducible exact H | (rw [hy148];exact H) | exact H
 have a7:=Z_ hy148
 clear hy148
 replace H:=iE_ H
 obtain ⟨c2b0,c2b1,H⟩ | ⟨c2b0,c2b1,H⟩:=H
 ·replace H:=iN_ H
  obtain ⟨c3,H⟩:=H
  have aq:=Z_ c3
  clear c3
  obtain ⟨y151,hy151⟩ : ∃ y_ : List Int,y_ = (y145 ++ y148):=⟨_,rfl⟩
  replace H : (some (y142,y151)) = some (r1,r2):=by first | (rw [hy151];with_reducible exact H) | (have H2_:=(Option.bind_some _ _).symm.trans H;rw [hy151];with_reducible exact H2_) | (have H2_:=(Option.bind_some _ _).symm.trans H;with_reducible exact H2_) | with_reducible exact H | (rw [hy151];exact H) | exact H
  have ag:=Z_ hy151
  clear hy151
  simp only [Option.some.injEq,Prod.mk.injEq] at H
  obtain ⟨rfl,rfl⟩:=H
  go_enter Tryz.func95,Tryz.ntmps95
  go_wp2_with (first | ((with_reducible refine gD_ 1 rfl ?_);refine bx_ #[.int .i64 a0_0,.int .i64 a0_1,.int .i64 a0_2,.int .i64 a0_3,.int .i64 a0_4,.int .i64 a0_5,.int .i64 a0_6,.int .i64 a0_7,.int .i64 a0_8,.int .i64 a0_9,.int .i64 a0_10,.int .i64 a0_11,.int .i64 a0_12,.int .i64 a0_13,.int .i64 a0_14,.int .i64 a0_15,.int .i64 a0_16,.int .i64 a0_17,.int .i64 a0_18,.int .i64 a0_19] 114 ?_;intro a8 hg w4 hbox hb;have a0:=Z_ hbox;have a4:=Z_ ((by rw [hg];exact (below_size HB.out) : w.heap.size ≤ a8));replace HB:=Z_ (lP_ HB.out hb);clear hb hbox hg;obtain ⟨_,_,_,_,_,_,_,_,_,_,_,_,_,_,_,_,_,_,_,_,_,_,_,_,_,_,_,_,_,_,_,_,_,_,_,_,_,_,_,_⟩:=bc20 a0.out) | ((with_reducible refine gD_ 13 rfl ?_);refine Kd.R_lit (Kd.int .i64) _ 2 ?hg (N:=13) ?hd (xs:=([a0_5,a0_7,a0_9] : List Int)) (inner:=[.int .i64 a0_5,.int .i64 a0_7,.int .i64 a0_9]) (ok:=fun _ => True) (okp:=fun _ => True) ?hr ?hp (fun _ hk => hk) trivial (Below.refl _ _) (Nat.le_refl _) (by simp) ?_;(case hd => rfl);(case hg => rfl);(case hr => first | (go_simp;done) | (go_simp;rfl));(case hp => exact (Reps.one (show Kd.M (Kd.int .i64) _ _ _ a0_5 [.int .i64 a0_5] from rfl) (Reps.one (show Kd.M (Kd.int .i64) _ _ _ a0_7 [.int .i64 a0_7] from rfl) (Reps.one (show Kd.M (Kd.int .i64) _ _ _ a0_9 [.int .i64 a0_9] from rfl) (Reps.none _ _)))));intro v143 w6 ho7 hb hg_ hnew_;clear hg_ hnew_;(first | rw [← a5.out] at ho7 | (simp only [Int.reduceToNat] at ho7;rw [← a5.out] at ho7));have a1:=Z_ (Kd.R_lower ho7 (below_size HB.out));replace a0:=Z_ (bB_ a0.out hb);replace HB:=Z_ (lP_ HB.out hb);clear hb ho7;obtain ⟨_,_,_,_,_,_,_,_,_,_,_,_,_,_,_,_,_,_,_,_,_,_,_,_,_,_,_,_,_,_,_,_,_,_,_,_,_,_,_,_⟩:=bc20 a0.out) | ((with_reducible refine gD_ 32 rfl ?_);refine Kd.R_lit (Kd.int .i64) _ 2 ?hg (N:=32) ?hd (xs:=([a0_6,a0_8,a0_10,a0_11,a0_12,a0_13,a0_14] : List Int)) (inner:=[.int .i64 a0_6,.int .i64 a0_8,.int .i64 a0_10,.int .i64 a0_11,.int .i64 a0_12,.int .i64 a0_13,.int .i64 a0_14]) (ok:=fun _ => True) (okp:=fun _ => True) ?hr ?hp (fun _ hk => hk) trivial (Below.refl _ _) (Nat.le_refl _) (by simp) ?_;(case hd => rfl);(case hg => rfl);(case hr => first | (go_simp;done) | (go_simp;rfl));(case hp => exact (Reps.one (show Kd.M (Kd.int .i64) _ _ _ a0_6 [.int .i64 a0_6] from rfl) (Reps.one (show Kd.M (Kd.int .i64) _ _ _ a0_8 [.int .i64 a0_8] from rfl) (Reps.one (show Kd.M (Kd.int .i64) _ _ _ a0_10 [.int .i64 a0_10] from rfl) (Reps.one (show Kd.M (Kd.int .i64) _ _ _ a0_11 [.int .i64 a0_11] from rfl) (Reps.one (show Kd.M (Kd.int .i64) _ _ _ a0_12 [.int .i64 a0_12] from rfl) (Reps.one (show Kd.M (Kd.int .i64) _ _ _ a0_13 [.int .i64 a0_13] from rfl) (Reps.one (show Kd.M (Kd.int .i64) _ _ _ a0_14 [.int .i64 a0_14] from rfl) (Reps.none _ _)))))))));intro v146 w9 ho10 hb hg_ hnew_;clear hg_ hnew_;(first | rw [← a6.out] at ho10 | (simp only [Int.reduceToNat] at ho10;rw [← a6.out] at ho10));have a2:=Z_ (Kd.R_lower (Kd.R_new' ho10 (Kd.R_lt a1.out)) (below_size HB.out));replace a1:=Z_ (Kd.R_elder' a1.out (Kd.R_base ho10) hb);replace a0:=Z_ (bB_ a0.out hb);replace HB:=Z_ (lP_ HB.out hb);clear hb ho10;obtain ⟨_,_,_,_,_,_,_,_,_,_,_,_,_,_,_,_,_,_,_,_,_,_,_,_,_,_,_,_,_,_,_,_,_,_,_,_,_,_,_,_⟩:=bc20 a0.out) | ((with_reducible refine gD_ 37 rfl ?_);refine Kd.R_lit (Kd.int .i64) _ 2 ?hg (N:=37) ?hd (xs:=([a0_15,a0_16] : List Int)) (inner:=[.int .i64 a0_15,.int .i64 a0_16]) (ok:=fun _ => True) (okp:=fun _ => True) ?hr ?hp (fun _ hk => hk) trivial (Below.refl _ _) (Nat.le_refl _) (by simp) ?_;(case hd => rfl);(case hg => rfl);(case hr => first | (go_simp;done) | (go_simp;rfl));(case hp => exact (Reps.one (show Kd.M (Kd.int .i64) _ _ _ a0_15 [.int .i64 a0_15] from rfl) (Reps.one (show Kd.M (Kd.int .i64) _ _ _ a0_16 [.int .i64 a0_16] from rfl) (Reps.none _ _))));intro v149 w12 ho13 hb hg_ hnew_;clear hg_ hnew_;(first | rw [← a7.out] at ho13 | (simp only [Int.reduceToNat] at ho13;rw [← a7.out] at ho13));have a3:=Z_ (Kd.R_lower (Kd.R_new' (Kd.R_new' ho13 (Kd.R_lt a1.out)) (Kd.R_lt a2.out)) (below_size HB.out));replace a1:=Z_ (Kd.R_elder' a1.out (Kd.R_base ho13) hb);replace a2:=Z_ (Kd.R_elder' a2.out (Kd.R_base ho13) hb);replace a0:=Z_ (bB_ a0.out hb);replace HB:=Z_ (lP_ HB.out hb);clear hb ho13;obtain ⟨_,_,_,_,_,_,_,_,_,_,_,_,_,_,_,_,_,_,_,_,_,_,_,_,_,_,_,_,_,_,_,_,_,_,_,_,_,_,_,_⟩:=bc20 a0.out;obtain ⟨ac,ad,eo16⟩:=Kd.R_slice a3.out;subst eo16) | ((with_reducible refine gate_builtin (b:=.append) (xs:=#[.tmp 43,.tmp 44]) rfl ?_);at_builtin;refine Kd.R_append_rows (Kd.int .i64) (w0:=w) w.heap.size rfl (.tmp 43) (.tmp 44) 24 2 (.int .i64 0) 8 rfl Tryz.underlying24 info2 rfl (by decide) (by omega) v146 y145 y148 _ _ _ (fun k_ => some k_ ≠ (v143 : Value).ownBlock ∧ some k_ ≠ (.slice ac y148.length ad : Value).ownBlock) (fun _ => False) rfl rfl ?aO ?aR (fun _ _ h => h) (fun _ h => h.elim) ?aF ?aB ?aS ?aL ?_;(case aR => exact Rc_ a3);(case aB => exact Lb_);(case aF => exact (fun k_ hk => ⟨Kd.fresh' (Kd.R_lt a1.out) k_ hk,Kd.fresh' (Kd.R_lt a3.out) k_ hk⟩));(case aO => exact (Kd.R_mono a2.out (fun _ hk => ⟨hk.1.2,hk.2⟩)));(case aS => exact (below_size Lb_));(case aL => have:=aq.out;omega);intro v152 w15 ho hb hg hat;rw [← ag.out] at ho;replace a1:=Z_ (Kd.R_after (ok:=(fun k_ => some k_ ≠ (.slice ac y148.length ad : Value).ownBlock)) (Kd.R_mono a1.out (fun _ hk => ⟨hk.2,hk.1.2⟩)) hg hat);replace HB:=Z_ (hb);have ah:=Z_ (ho);clear a2 ho hb hg hat))
  go_ret2
  exact ⟨_,_,Er_,by (with_reducible repeat first | apply rA_ | apply rN_ | apply rD_);exact Kd.R_mono a1.out (fun _ hk => hk.2),by (with_reducible repeat first | apply rA_ | apply rN_ | apply rD_);exact Kd.R_mono ah.out (fun _ hk => hk.1),Lb_⟩
 replace H:=iE_ H
 obtain ⟨c17b0,c17b1,H⟩ | ⟨c17b0,c17b1,H⟩:=H
 ·replace H:=iN_ H
  obtain ⟨c18,H⟩:=H
  have ai:=Z_ c18
  clear c18
  obtain ⟨y154,hy154⟩ : ∃ y_ : List Int,y_ = (y142 ++ y145):=⟨_,rfl⟩
  replace H : (some (y154,y148)) = some (r1,r2):=by first | (rw [hy154];with_reducible exact H) | (have H2_:=(Option.bind_some _ _).symm.trans H;rw [hy154];with_reducible exact H2_) | (have H2_:=(Option.bind_some _ _).symm.trans H;with_reducible exact H2_) | with_reducible exact H | (rw [hy154];exact H) | exact H
  have aj:=Z_ hy154
  clear hy154
  simp only [Option.some.injEq,Prod.mk.injEq] at H
  obtain ⟨rfl,rfl⟩:=H
  go_enter Tryz.func95,Tryz.ntmps95
  go_wp2_with (first | ((with_reducible refine gD_ 1 rfl ?_);refine bx_ #[.int .i64 a0_0,.int .i64 a0_1,.int .i64 a0_2,.int .i64 a0_3,.int .i64 a0_4,.int .i64 a0_5,.int .i64 a0_6,.int .i64 a0_7,.int .i64 a0_8,.int .i64 a0_9,.int .i64 a0_10,.int .i64 a0_11,.int .i64 a0_12,.int .i64 a0_13,.int .i64 a0_14,.int .i64 a0_15,.int .i64 a0_16,.int .i64 a0_17,.int .i64 a0_18,.int .i64 a0_19] 114 ?_;intro a8 hg w19 hbox hb;have a0:=Z_ hbox;have a4:=Z_ ((by rw [hg];exact (below_size Lb_) : w.heap.size ≤ a8));replace HB:=Z_ (lP_ Lb_ hb);clear hb hbox hg;obtain ⟨_,_,_,_,_,_,_,_,_,_,_,_,_,_,_,_,_,_,_,_,_,_,_,_,_,_,_,_,_,_,_,_,_,_,_,_,_,_,_,_⟩:=bc20 a0.out) | ((with_reducible refine gD_ 13 rfl ?_);refine Kd.R_lit (Kd.int .i64) _ 2 ?hg (N:=13) ?hd (xs:=([a0_5,a0_7,a0_9] : List Int)) (inner:=[.int .i64 a0_5,.int .i64 a0_7,.int .i64 a0_9]) (ok:=fun _ => True) (okp:=fun _ => True) ?hr ?hp (fun _ hk => hk) trivial (Below.refl _ _) (Nat.le_refl _) (by simp) ?_;(case hd => rfl);(case hg => rfl);(case hr => first | (go_simp;done) | (go_simp;rfl));(case hp => exact (Reps.one (show Kd.M (Kd.int .i64) _ _ _ a0_5 [.int .i64 a0_5] from rfl) (Reps.one (show Kd.M (Kd.int .i64) _ _ _ a0_7 [.int .i64 a0_7] from rfl) (Reps.one (show Kd.M (Kd.int .i64) _ _ _ a0_9 [.int .i64 a0_9] from rfl) (Reps.none _ _)))));intro v143 w21 ho22 hb hg_ hnew_;clear hg_ hnew_;(first | rw [← a5.out] at ho22 | (simp only [Int.reduceToNat] at ho22;rw [← a5.out] at ho22));have a1:=Z_ (Kd.R_lower ho22 (below_size HB.out));replace a0:=Z_ (bB_ a0.out hb);replace HB:=Z_ (lP_ HB.out hb);clear hb ho22;obtain ⟨_,_,_,_,_,_,_,_,_,_,_,_,_,_,_,_,_,_,_,_,_,_,_,_,_,_,_,_,_,_,_,_,_,_,_,_,_,_,_,_⟩:=bc20 a0.out) | ((with_reducible refine gD_ 32 rfl ?_);refine Kd.R_lit (Kd.int .i64) _ 2 ?hg (N:=32) ?hd (xs:=([a0_6,a0_8,a0_10,a0_11,a0_12,a0_13,a0_14] : List Int)) (inner:=[.int .i64 a0_6,.int .i64 a0_8,.int .i64 a0_10,.int .i64 a0_11,.int .i64 a0_12,.int .i64 a0_13,.int .i64 a0_14]) (ok:=fun _ => True) (okp:=fun _ => True) ?hr ?hp (fun _ hk => hk) trivial (Below.refl _ _) (Nat.le_refl _) (by simp) ?_;(case hd => rfl);(case hg => rfl);(case hr => first | (go_simp;done) | (go_simp;rfl));(case hp => exact (Reps.one (show Kd.M (Kd.int .i64) _ _ _ a0_6 [.int .i64 a0_6] from rfl) (Reps.one (show Kd.M (Kd.int .i64) _ _ _ a0_8 [.int .i64 a0_8] from rfl) (Reps.one (show Kd.M (Kd.int .i64) _ _ _ a0_10 [.int .i64 a0_10] from rfl) (Reps.one (show Kd.M (Kd.int .i64) _ _ _ a0_11 [.int .i64 a0_11] from rfl) (Reps.one (show Kd.M (Kd.int .i64) _ _ _ a0_12 [.int .i64 a0_12] from rfl) (Reps.one (show Kd.M (Kd.int .i64) _ _ _ a0_13 [.int .i64 a0_13] from rfl) (Reps.one (show Kd.M (Kd.int .i64) _ _ _ a0_14 [.int .i64 a0_14] from rfl) (Reps.none _ _)))))))));intro v146 w24 ho25 hb hg_ hnew_;clear hg_ hnew_;(first | rw [← a6.out] at ho25 | (simp only [Int.reduceToNat] at ho25;rw [← a6.out] at ho25));have a2:=Z_ (Kd.R_lower (Kd.R_new' ho25 (Kd.R_lt a1.out)) (below_size HB.out));replace a1:=Z_ (Kd.R_elder' a1.out (Kd.R_base ho25) hb);replace a0:=Z_ (bB_ a0.out hb);replace HB:=Z_ (lP_ HB.out hb);clear hb ho25;obtain ⟨_,_,_,_,_,_,_,_,_,_,_,_,_,_,_,_,_,_,_,_,_,_,_,_,_,_,_,_,_,_,_,_,_,_,_,_,_,_,_,_⟩:=bc20 a0.out) | ((with_reducible refine gD_ 37 rfl ?_);refine Kd.R_lit (Kd.int .i64) _ 2 ?hg (N:=37) ?hd (xs:=([a0_15,a0_16] : List Int)) (inner:=[.int .i64 a0_15,.int .i64 a0_16]) (ok:=fun _ => True) (okp:=fun _ => True) ?hr ?hp (fun _ hk => hk) trivial (Below.refl _ _) (Nat.le_refl _) (by simp) ?_;(case hd => rfl);(case hg => rfl);(case hr => first | (go_simp;done) | (go_simp;rfl));(case hp => exact (Reps.one (show Kd.M (Kd.int .i64) _ _ _ a0_15 [.int .i64 a0_15] from rfl) (Reps.one (show Kd.M (Kd.int .i64) _ _ _ a0_16 [.int .i64 a0_16] from rfl) (Reps.none _ _))));intro v149 w27 ho28 hb hg_ hnew_;clear hg_ hnew_;(first | rw [← a7.out] at ho28 | (simp only [Int.reduceToNat] at ho28;rw [← a7.out] at ho28));have a3:=Z_ (Kd.R_lower (Kd.R_new' (Kd.R_new' ho28 (Kd.R_lt a1.out)) (Kd.R_lt a2.out)) (below_size HB.out));replace a1:=Z_ (Kd.R_elder' a1.out (Kd.R_base ho28) hb);replace a2:=Z_ (Kd.R_elder' a2.out (Kd.R_base ho28) hb);replace a0:=Z_ (bB_ a0.out hb);replace HB:=Z_ (lP_ HB.out hb);clear hb ho28;obtain ⟨_,_,_,_,_,_,_,_,_,_,_,_,_,_,_,_,_,_,_,_,_,_,_,_,_,_,_,_,_,_,_,_,_,_,_,_,_,_,_,_⟩:=bc20 a0.out;obtain ⟨ae,af,eo31⟩:=Kd.R_slice a2.out;subst eo31) | ((with_reducible refine gate_builtin (b:=.append) (xs:=#[.tmp 48,.tmp 49]) rfl ?_);at_builtin;refine Kd.R_append_rows (Kd.int .i64) (w0:=w) w.heap.size rfl (.tmp 48) (.tmp 49) 24 2 (.int .i64 0) 8 rfl Tryz.underlying24 info2 rfl (by decide) (by omega) v143 y142 y145 _ _ _ (fun k_ => some k_ ≠ (.slice ae y145.length af : Value).ownBlock ∧ some k_ ≠ (v149 : Value).ownBlock) (fun _ => False) rfl rfl ?aO ?aR (fun _ _ h => h) (fun _ h => h.elim) ?aF ?aB ?aS ?aL ?_;(case aR => exact Rc_ a2);(case aB => exact Lb_);(case aF => exact (fun k_ hk => ⟨Kd.fresh' (Kd.R_lt a2.out) k_ hk,Kd.fresh' (Kd.R_lt a3.out) k_ hk⟩));(case aO => exact (Kd.R_mono a1.out (fun _ hk => ⟨hk.1.2,hk.2⟩)));(case aS => exact (below_size Lb_));(case aL => have:=ai.out;omega);intro v155 w30 ho hb hg hat;rw [← aj.out] at ho;replace a3:=Z_ (Kd.R_after (ok:=(fun k_ => some k_ ≠ (.slice ae y145.length af : Value).ownBlock)) (Kd.R_mono a3.out (fun _ hk => ⟨hk.2,hk.1.2⟩)) hg hat);replace HB:=Z_ (hb);have ak:=Z_ (ho);clear a1 ho hb hg hat))
  go_ret2
  exact ⟨_,_,Er_,by (with_reducible repeat first | apply rA_ | apply rN_ | apply rD_);exact Kd.R_mono ak.out (fun _ hk => hk.2),by (with_reducible repeat first | apply rA_ | apply rN_ | apply rD_);exact Kd.R_mono a3.out (fun _ hk => hk.2),Lb_⟩
 replace H:=iN_ H
 obtain ⟨c32,H⟩:=H
 have al:=Z_ c32
 clear c32
 obtain ⟨y157,hy157⟩ : ∃ y_ : List Int,y_ = (y142 ++ y145):=⟨_,rfl⟩
 replace H : (if y157.length + y148.length < 17592186044416 then (some ((y157 ++ y148),([] : List Int))) else (none)) = some (r1,r2):=by first | (rw [hy157];with_reducible exact H) | (have H2_:=(Option.bind_some _ _).symm.trans H;rw [hy157];with_reducible exact H2_) | (have H2_:=(Option.bind_some _ _).symm.trans H;with_reducible exact H2_) | with_reducible exact H | (rw [hy157];exact H) | exact H
 have am:=Z_ hy157
 clear hy157
 replace H:=iN_ H
 obtain ⟨c33,H⟩:=H
 have an:=Z_ c33
 clear c33
 obtain ⟨y160,hy160⟩ : ∃ y_ : List Int,y_ = (y157 ++ y148):=⟨_,rfl⟩
 replace H : (some (y160,([] : List Int))) = some (r1,r2):=by first | (rw [hy160];with_reducible exact H) | (have H2_:=(Option.bind_some _ _).symm.trans H;rw [hy160];with_reducible exact H2_) | (have H2_:=(Option.bind_some _ _).symm.trans H;with_reducible exact H2_) | with_reducible exact H | (rw [hy160];exact H) | exact H
 have ao:=Z_ hy160
 clear hy160
 simp only [Option.some.injEq,Prod.mk.injEq] at H
 obtain ⟨rfl,rfl⟩:=H
 go_enter Tryz.func95,Tryz.ntmps95
 go_wp2_with (first | ((with_reducible refine gD_ 1 rfl ?_);refine bx_ #[.int .i64 a0_0,.int .i64 a0_1,.int .i64 a0_2,.int .i64 a0_3,.int .i64 a0_4,.int .i64 a0_5,.int .i64 a0_6,.int .i64 a0_7,.int .i64 a0_8,.int .i64 a0_9,.int .i64 a0_10,.int .i64 a0_11,.int .i64 a0_12,.int .i64 a0_13,.int .i64 a0_14,.int .i64 a0_15,.int .i64 a0_16,.int .i64 a0_17,.int .i64 a0_18,.int .i64 a0_19] 114 ?_;intro a8 hg w34 hbox hb;have a0:=Z_ hbox;have a4:=Z_ ((by rw [hg];exact (below_size Lb_) : w.heap.size ≤ a8));replace HB:=Z_ (lP_ Lb_ hb);clear hb hbox hg;obtain ⟨_,_,_,_,_,_,_,_,_,_,_,_,_,_,_,_,_,_,_,_,_,_,_,_,_,_,_,_,_,_,_,_,_,_,_,_,_,_,_,_⟩:=bc20 a0.out) | ((with_reducible refine gD_ 13 rfl ?_);refine Kd.R_lit (Kd.int .i64) _ 2 ?hg (N:=13) ?hd (xs:=([a0_5,a0_7,a0_9] : List Int)) (inner:=[.int .i64 a0_5,.int .i64 a0_7,.int .i64 a0_9]) (ok:=fun _ => True) (okp:=fun _ => True) ?hr ?hp (fun _ hk => hk) trivial (Below.refl _ _) (Nat.le_refl _) (by simp) ?_;(case hd => rfl);(case hg => rfl);(case hr => first | (go_simp;done) | (go_simp;rfl));(case hp => exact (Reps.one (show Kd.M (Kd.int .i64) _ _ _ a0_5 [.int .i64 a0_5] from rfl) (Reps.one (show Kd.M (Kd.int .i64) _ _ _ a0_7 [.int .i64 a0_7] from rfl) (Reps.one (show Kd.M (Kd.int .i64) _ _ _ a0_9 [.int .i64 a0_9] from rfl) (Reps.none _ _)))));intro v143 w36 ho37 hb hg_ hnew_;clear hg_ hnew_;(first | rw [← a5.out] at ho37 | (simp only [Int.reduceToNat] at ho37;rw [← a5.out] at ho37));have a1:=Z_ (Kd.R_lower ho37 (below_size HB.out));replace a0:=Z_ (bB_ a0.out hb);replace HB:=Z_ (lP_ HB.out hb);clear hb ho37;obtain ⟨_,_,_,_,_,_,_,_,_,_,_,_,_,_,_,_,_,_,_,_,_,_,_,_,_,_,_,_,_,_,_,_,_,_,_,_,_,_,_,_⟩:=bc20 a0.out) | ((with_reducible refine gD_ 32 rfl ?_);refine Kd.R_lit (Kd.int .i64) _ 2 ?hg (N:=32) ?hd (xs:=([a0_6,a0_8,a0_10,a0_11,a0_12,a0_13,a0_14] : List Int)) (inner:=[.int .i64 a0_6,.int .i64 a0_8,.int .i64 a0_10,.int .i64 a0_11,.int .i64 a0_12,.int .i64 a0_13,.int .i64 a0_14]) (ok:=fun _ => True) (okp:=fun _ => True) ?hr ?hp (fun _ hk => hk) trivial (Below.refl _ _) (Nat.le_refl _) (by simp) ?_;(case hd => rfl);(case hg => rfl);(case hr => first | (go_simp;done) | (go_simp;rfl));(case hp => exact (Reps.one (show Kd.M (Kd.int .i64) _ _ _ a0_6 [.int .i64 a0_6] from rfl) (Reps.one (show Kd.M (Kd.int .i64) _ _ _ a0_8 [.int .i64 a0_8] from rfl) (Reps.one (show Kd.M (Kd.int .i64) _ _ _ a0_10 [.int .i64 a0_10] from rfl) (Reps.one (show Kd.M (Kd.int .i64) _ _ _ a0_11 [.int .i64 a0_11] from rfl) (Reps.one (show Kd.M (Kd.int .i64) _ _ _ a0_12 [.int .i64 a0_12] from rfl) (Reps.one (show Kd.M (Kd.int .i64) _ _ _ a0_13 [.int .i64 a0_13] from rfl) (Reps.one (show Kd.M (Kd.int .i64) _ _ _ a0_14 [.int .i64 a0_14] from rfl) (Reps.none _ _)))))))));intro v146 w39 ho40 hb hg_ hnew_;clear hg_ hnew_;(first | rw [← a6.out] at ho40 | (simp only [Int.reduceToNat] at ho40;rw [← a6.out] at ho40));have a2:=Z_ (Kd.R_lower (Kd.R_new' ho40 (Kd.R_lt a1.out)) (below_size HB.out));replace a1:=Z_ (Kd.R_elder' a1.out (Kd.R_base ho40) hb);replace a0:=Z_ (bB_ a0.out hb);replace HB:=Z_ (lP_ HB.out hb);clear hb ho40;obtain ⟨_,_,_,_,_,_,_,_,_,_,_,_,_,_,_,_,_,_,_,_,_,_,_,_,_,_,_,_,_,_,_,_,_,_,_,_,_,_,_,_⟩:=bc20 a0.out) | ((with_reducible refine gD_ 37 rfl ?_);refine Kd.R_lit (Kd.int .i64) _ 2 ?hg (N:=37) ?hd (xs:=([a0_15,a0_16] : List Int)) (inner:=[.int .i64 a0_15,.int .i64 a0_16]) (ok:=fun _ => True) (okp:=fun _ => True) ?hr ?hp (fun _ hk => hk) trivial (Below.refl _ _) (Nat.le_refl _) (by simp) ?_;(case hd => rfl);(case hg => rfl);(case hr => first | (go_simp;done) | (go_simp;rfl));(case hp => exact (Reps.one (show Kd.M (Kd.int .i64) _ _ _ a0_15 [.int .i64 a0_15] from rfl) (Reps.one (show Kd.M (Kd.int .i64) _ _ _ a0_16 [.int .i64 a0_16] from rfl) (Reps.none _ _))));intro v149 w42 ho43 hb hg_ hnew_;clear hg_ hnew_;(first | rw [← a7.out] at ho43 | (simp only [Int.reduceToNat] at ho43;rw [← a7.out] at ho43));have a3:=Z_ (Kd.R_lower (Kd.R_new' (Kd.R_new' ho43 (Kd.R_lt a1.out)) (Kd.R_lt a2.out)) (below_size HB.out));replace a1:=Z_ (Kd.R_elder' a1.out (Kd.R_base ho43) hb);replace a2:=Z_ (Kd.R_elder' a2.out (Kd.R_base ho43) hb);replace a0:=Z_ (bB_ a0.out hb);replace HB:=Z_ (lP_ HB.out hb);clear hb ho43;obtain ⟨_,_,_,_,_,_,_,_,_,_,_,_,_,_,_,_,_,_,_,_,_,_,_,_,_,_,_,_,_,_,_,_,_,_,_,_,_,_,_,_⟩:=bc20 a0.out;obtain ⟨a9,aa,eo46⟩:=Kd.R_slice a2.out;subst eo46) | ((with_reducible refine gate_builtin (b:=.append) (xs:=#[.tmp 52,.tmp 53]) rfl ?_);at_builtin;refine Kd.R_append_rows (Kd.int .i64) (w0:=w) w.heap.size rfl (.tmp 52) (.tmp 53) 24 2 (.int .i64 0) 8 rfl Tryz.underlying24 info2 rfl (by decide) (by omega) v143 y142 y145 _ _ _ (fun k_ => some k_ ≠ (.slice a9 y145.length aa : Value).ownBlock ∧ some k_ ≠ (v149 : Value).ownBlock) (fun _ => False) rfl rfl ?aO ?aR (fun _ _ h => h) (fun _ h => h.elim) ?aF ?aB ?aS ?aL ?_;(case aR => exact Rc_ a2);(case aB => exact Lb_);(case aF => exact (fun k_ hk => ⟨Kd.fresh' (Kd.R_lt a2.out) k_ hk,Kd.fresh' (Kd.R_lt a3.out) k_ hk⟩));(case aO => exact (Kd.R_mono a1.out (fun _ hk => ⟨hk.1.2,hk.2⟩)));(case aS => exact (below_size Lb_));(case aL => have:=al.out;omega);intro v158 w45 ho hb hg hat;rw [← am.out] at ho;replace a2:=Z_ (Kd.R_after (ok:=(fun k_ => some k_ ≠ (v149 : Value).ownBlock)) (Kd.R_mono a2.out (fun _ hk => ⟨hk.2,hk.1.2⟩)) hg hat);replace a3:=Z_ (Kd.R_after (ok:=(fun k_ => some k_ ≠ (.slice a9 y145.length aa : Value).ownBlock)) (Kd.R_mono a3.out (fun _ hk => ⟨hk.2,hk.1.2⟩)) hg hat);replace HB:=Z_ (hb);have ab:=Z_ (ho);clear a1 ho hb hg hat;obtain ⟨ar,au,eo48⟩:=Kd.R_slice a3.out;subst eo48) | ((with_reducible refine gate_builtin (b:=.append) (xs:=#[.tmp 54,.tmp 55]) rfl ?_);at_builtin;refine Kd.R_append_rows (Kd.int .i64) (w0:=w) w.heap.size rfl (.tmp 54) (.tmp 55) 24 2 (.int .i64 0) 8 rfl Tryz.underlying24 info2 rfl (by decide) (by omega) v158 y157 y148 _ _ _ (fun k_ => some k_ ≠ (.slice a9 y145.length aa : Value).ownBlock ∧ some k_ ≠ (.slice ar y148.length au : Value).ownBlock) (fun _ => False) rfl rfl ?aO ?aR (fun _ _ h => h) (fun _ h => h.elim) ?aF ?aB ?aS ?aL ?_;(case aR => exact Rc_ a3);(case aB => exact Lb_);(case aF => exact (fun k_ hk => ⟨Kd.fresh' (Kd.R_lt a2.out) k_ hk,Kd.fresh' (Kd.R_lt a3.out) k_ hk⟩));(case aO => exact ab.out);(case aS => exact (below_size Lb_));(case aL => have:=an.out;omega);intro v161 w47 ho hb hg hat;rw [← ao.out] at ho;replace HB:=Z_ (hb);have ap:=Z_ (ho);clear ab ho hb hg hat))
 go_ret2
 exact ⟨_,_,Er_,by (with_reducible repeat first | apply rA_ | apply rN_ | apply rD_);exact Kd.R_mono ap.out (fun _ hk => (by simp [Value.ownBlock])),by first | exact Kd.R_nil _ _ _ _ _ | exact Kd.N_nil _ _ _ _ _ | exact Kd.V_nil _ _ _ _ _ | exact Kd.Q_nil _ _ _ _ _ | exact Kd.S_nil _ _ _ _ _,Lb_⟩
end Go.Proofs.YtcafikgabidphaaGreat.G
set_option linter.unusedVariables false
set_option linter.unusedSimpArgs false
namespace Go.Proofs.YtcafikgabidphaaGreat.G
open Go.RowKit Go.Proofs.YtcafikgabidphaaGreatW.PrintWords Go.Proofs.YtcafikgabidphaaGreatW.PrintLast Go.Proofs.YtcafikgabidphaaGreatW.PrintMore
def RowAt (w : World) (a : Addr) (cs : List Value) : Prop := ∀ j u, cs[j]? = some u → w.cell? (a.add j) = some u
theorem RowAt.below {w W : World} {B : Nat} {a : Addr} {cs : List Value} (h : RowAt w a cs) (hb : Below w.heap.size w W) : RowAt W a cs := fun j u e => (hb.cell (World.block_lt_of_cell? w _ (h j u e))).trans (h j u e)
section
variable {P : Program} {ops : Array Oper} {rest : List Oper} {o : Oper} {a : Act} {w : World} {Q : Exit → Act → World → Prop}
theorem gate_load_ {t : TypeId} {p : Tmp} (_ho : o.op = .load t (.tmp p)) (h : wpList P ops Q (o :: rest) a w) : wpList P ops Q (o :: rest) a w := h
theorem run_loadRow (ty : TypeId) (a0 : Addr) (cs : List Value) (d : TypeDesc) (hc : RowAt w a0 cs) (hu : P.underlying ty = some d) (hd : (match d with | .struct _ | .array _ _ => true | _ => false) = true) (hi : (P.info? ty).map (·.size) = some cs.length) :
    (Instr.loadAt ty (.pointer (some a0))).run P w = .ok (.agg cs.toArray) w := by
  have hl : (loadCells a0 cs.length).run P w = .ok cs.toArray w := run_loadCells_list (P := P) w a0 cs hc
  cases hq : P.info? ty with
  | none => simp [hq] at hi
  | some i =>
    have hs : i.size = cs.length := by simpa [hq] using hi
    have hagg : (isAgg ty).run P w = .ok true w := by
      unfold isAgg
      rw [Sem.run_bind, run_underlying hu w]
      cases d <;> simp_all
    simp only [Instr.loadAt, Instr.sureAddr, Sem.run_bind, Sem.run_pure, Result.andThen_ok]
    simp [loadVar, Sem.run_bind, hagg, sizeOf, typeInfo, hq, hs, hl]
theorem exec_loadRow {ty : TypeId} {x : Operand} (ho : o.op = .load ty x) {a0 : Addr} (hx : a.eval x = .pointer (some a0)) {cs : List Value} {d : TypeDesc} (hc : RowAt w a0 cs) (hu : P.underlying ty = some d) (hd : (match d with | .struct _ | .array _ _ => true | _ => false) = true) (hi : (P.info? ty).map (·.size) = some cs.length) :
    (execOp a.eval o).run P w = .ok (.value (.agg cs.toArray)) w := by
  unfold execOp
  simp only [ho, hx, Sem.run_bind, run_loadRow ty a0 cs d hc hu hd hi, Result.andThen_ok, Sem.run_pure]
theorem load_row_ (hgd : o.guard = none) {ty : TypeId} {x : Operand} (ho : o.op = .load ty x) {a0 : Addr} (hx : a.eval x = .pointer (some a0)) {cs : List Value} {d : TypeDesc} (hc : RowAt w a0 cs) (hu : P.underlying ty = some d) (hd : (match d with | .struct _ | .array _ _ => true | _ => false) = true) (hi : (P.info? ty).map (·.size) = some cs.length)
    (h : wpList P ops Q rest (a.put o.dst (.agg cs.toArray)) w) : wpList P ops Q (o :: rest) a w :=
  Kd.event_run hgd (exec_loadRow ho hx hc hu hd hi) h
end
theorem exec_storeRow {P : Program} {o : Oper} {a : Act} {w : World} {ty : TypeId} {x y : Operand} (ho : o.op = .store ty x y) {g o0 : Nat} (hx : a.eval x = .pointer (some ⟨g, o0, none⟩)) {cs : List Value} (hy : a.eval y = .agg cs.toArray)
    (ht : ∀ j, j < cs.length → (w.cell? ⟨g, o0 + j, none⟩).isSome = true ∧ w.frozen? ⟨g, o0 + j, none⟩ = false) (hi : (P.info? ty).map (·.size) = some cs.length) (h1 : cs.all (·.oneCell') = true) :
    (execOp a.eval o).run P w = .ok .skip (w.setCells g o0 cs) := by
  have hs := run_storeCells_cells (P := P) g o0 cs 0 w (fun j hj => (ht j hj).1) (fun j hj => (ht j hj).2) (fun v hv => List.all_eq_true.1 h1 v hv)
  cases hq : P.info? ty with
  | none => simp [hq] at hi
  | some i =>
    have hz : cs.length = i.size := by simp [hq] at hi; omega
    simp only [Nat.add_zero] at hs
    have hs2 : (Instr.storeAt ty (.pointer (some ⟨g, o0, none⟩)) (.agg cs.toArray)).run P w = .ok () (w.setCells g o0 cs) := by
      simp only [Instr.storeAt, Instr.sureAddr, Sem.run_bind, Sem.run_pure, Result.andThen_ok]
      simp [storeVar, sizeOf, typeInfo, hq, Value.cells, hz, hs]
    unfold execOp
    simp only [ho, hx, hy, Sem.run_bind, hs2, Result.andThen_ok, Sem.run_pure]
def Upd (g : Nat) (w w1 : World) : Prop := ∃ vs, w1 = w.setCells g 0 vs
theorem lSs_ {B : Nat} {w0 w : World} {g o : Nat} {vs : List Value} (h : Below B w0 w) (hg : B ≤ g) : Below B w0 (w.setCells g o vs) := by
  induction vs generalizing w o with
  | nil => exact h
  | cons v r ih => exact ih (h.setCell (p := ⟨g, o, none⟩) hg v)
theorem lU_ {B : Nat} {w0 w w1 : World} {g : Nat} (hU : Upd g w w1) (h : Below B w0 w) (hg : B ≤ g) : Below B w0 w1 := by
  obtain ⟨vs, rfl⟩ := hU
  exact lSs_ h hg
theorem bU_ {w w1 : World} {g k : Nat} {ob : Obj} (hU : Upd g w w1) (h : w.heap[k]? = some ob) (hne : k ≠ g) : w1.heap[k]? = some ob := by
  obtain ⟨vs, rfl⟩ := hU
  exact (setCells_far vs 0 k hne).trans h
theorem blk_setCells {g t : Nat} : ∀ (vs : List Value) (o : Nat) (w : World) (old : Array Value), w.heap[g]? = some (.cells old t (0, 0)) → ∃ new : Array Value, (w.setCells g o vs).heap[g]? = some (.cells new t (0, 0)) ∧ new.size = old.size ∧ (∀ j, j < o → new[j]? = old[j]?) ∧ ∀ j, j < vs.length → o + j < old.size → new[o + j]? = vs[j]?
  | [], _, w, old, h => ⟨old, h, rfl, fun _ _ => rfl, fun j hj => absurd hj (by simp)⟩
  | v :: r, o, w, old, h => by
    obtain ⟨new, h1, h2, h3, h4⟩ := blk_setCells r (o + 1) (w.setCell ⟨g, o, none⟩ v) (old.setIfInBounds o v) (blk_put h o v rfl)
    refine ⟨new, h1, by rw [h2]; simp, fun j hj => ?_, fun j hj hs => ?_⟩
    · rw [h3 j (by omega), Array.getElem?_setIfInBounds]
      simp [show o ≠ j by omega]
    · cases j with
      | zero =>
        rw [Nat.add_zero] at hs ⊢
        rw [h3 o (by omega), Array.getElem?_setIfInBounds]
        simp [hs]
      | succ j =>
        have := h4 j (by simpa using hj) (by simp; omega)
        rw [show o + (j + 1) = o + 1 + j by omega, this]
        rfl
theorem store_box_ {P : Program} {ops : Array Oper} {rest : List Oper} {o : Oper} {a : Act} {W : World} {Q : Exit → Act → World → Prop} (hgd : o.guard = none) {ty : TypeId} {p : Tmp} {y : Operand} (ho : o.op = .store ty (.tmp p) y) (hN : o.dst = none) {g t : Nat} (hx : a.eval (.tmp p) = .pointer (some ⟨g, 0, none⟩)) {cs : List Value} (hy : a.eval y = .agg cs.toArray)
    {old : Array Value} (hg : W.heap[g]? = some (.cells old t (0, 0))) (hold : old.size = cs.length) (hi : (P.info? ty).map (·.size) = some cs.length) (h1 : cs.all (·.oneCell') = true)
    (h : ∀ w1, w1.heap[g]? = some (.cells cs.toArray t (0, 0)) → Upd g W w1 → wpList P ops Q rest a w1) : wpList P ops Q (o :: rest) a W := by
  refine store_event hgd ho hN (exec_storeRow ho hx hy (fun j hj => ?_) hi h1) (fun w' hw => ?_)
  · rw [cell_of_row W g _ old t (0, 0) hg]
    have : j < old.size := by omega
    exact ⟨by simp [this], blk_frozen hg _⟩
  · subst hw
    refine h _ ?_ ⟨cs, rfl⟩
    obtain ⟨new, n1, n2, _, n4⟩ := blk_setCells cs 0 W old hg
    rw [n1]
    congr 2
    apply Array.ext_getElem?
    intro j
    by_cases hj : j < cs.length
    · have := n4 j hj (by omega)
      rw [Nat.zero_add] at this
      rw [this]; simp
    · rw [Array.getElem?_eq_none (by omega), Array.getElem?_eq_none (by simp; omega)]
theorem rowAt_block {w : World} {g t : Nat} {cs : List Value} (h : w.heap[g]? = some (.cells cs.toArray t (0, 0))) : RowAt w ⟨g, 0, none⟩ cs := fun j u e => by
  have hadd : (⟨g, 0, none⟩ : Addr).add j = ⟨g, j, none⟩ := by unfold Addr.add; split <;> simp_all
  rw [hadd, cell_of_row w g j cs.toArray t (0, 0) h]
  simpa using e
theorem size114_ : (Tryz.prog.info? 114).map (·.size) = some 20 := by kernel_rfl
theorem at_L114 {w : World} {A : Option Addr} {n : Nat} {xs : List S114} (h : Kd.C k114 w A n xs) (i : Int) (h0 : 0 ≤ i) (h1 : i < n) : ∃ ad, A = some ad ∧ RowAt w (ad.add (i.toNat * 20)) [.int .i64 (rd_T114 xs i).f0, .int .i64 (rd_T114 xs i).f1, .int .i64 (rd_T114 xs i).f2, .int .i64 (rd_T114 xs i).f3, .int .i64 (rd_T114 xs i).f4, .int .i64 (rd_T114 xs i).f5, .int .i64 (rd_T114 xs i).f6, .int .i64 (rd_T114 xs i).f7, .int .i64 (rd_T114 xs i).f8, .int .i64 (rd_T114 xs i).f9, .int .i64 (rd_T114 xs i).f10, .int .i64 (rd_T114 xs i).f11.f0, .int .i64 (rd_T114 xs i).f11.f1, .int .i64 (rd_T114 xs i).f11.f2, .int .i64 (rd_T114 xs i).f11.f3, .int .i64 (rd_T114 xs i).f12, .int .i64 (rd_T114 xs i).f13, .int .i64 (rd_T114 xs i).f14, .int .i64 (rd_T114 xs i).f15.f0, .int .i64 (rd_T114 xs i).f15.f1] := by
  obtain ⟨ad, c, e, _, hK, hc0⟩ := Kd.C_get h z114 i h0 h1
  have hc : ∀ j u, c[j]? = some u → w.cell? (ad.add (i.toNat * 20 + j)) = some u := hc0
  obtain rfl := k114_open hK
  refine ⟨ad, e, fun j u hj => ?_⟩
  rw [Go.Deep.add_add]
  exact hc j u hj
theorem size142_ : (Tryz.prog.info? 142).map (·.size) = some 20 := by kernel_rfl
theorem at_L142 {w : World} {A : Option Addr} {n : Nat} {xs : List S142} (h : Kd.C k142 w A n xs) (i : Int) (h0 : 0 ≤ i) (h1 : i < n) : ∃ ad, A = some ad ∧ RowAt w (ad.add (i.toNat * 20)) [.int .i64 (rd_T142 xs i).f0, .int .i64 (rd_T142 xs i).f1, .int .i64 (rd_T142 xs i).f2, .int .i64 (rd_T142 xs i).f3, .int .i64 (rd_T142 xs i).f4, .int .i64 (rd_T142 xs i).f5, .int .i64 (rd_T142 xs i).f6, .int .i64 (rd_T142 xs i).f7, .int .i64 (rd_T142 xs i).f8, .int .i64 (rd_T142 xs i).f9, .int .i64 (rd_T142 xs i).f10, .int .i64 (rd_T142 xs i).f11.f0, .int .i64 (rd_T142 xs i).f11.f1, .int .i64 (rd_T142 xs i).f11.f2, .int .i64 (rd_T142 xs i).f11.f3, .int .i64 (rd_T142 xs i).f12, .int .i64 (rd_T142 xs i).f13, .int .i64 (rd_T142 xs i).f14, .int .i64 (rd_T142 xs i).f15.f0, .int .i64 (rd_T142 xs i).f15.f1] := by
  obtain ⟨ad, c, e, _, hK, hc0⟩ := Kd.C_get h z142 i h0 h1
  have hc : ∀ j u, c[j]? = some u → w.cell? (ad.add (i.toNat * 20 + j)) = some u := hc0
  obtain rfl := k142_open hK
  refine ⟨ad, e, fun j u hj => ?_⟩
  rw [Go.Deep.add_add]
  exact hc j u hj
end Go.Proofs.YtcafikgabidphaaGreat.G
namespace Go.Proofs.YtcafikgabidphaaGreat.G
open Go.RowKit Go.Proofs.YtcafikgabidphaaGreatW.PrintWords Go.Proofs.YtcafikgabidphaaGreatW.PrintLast Go.Proofs.YtcafikgabidphaaGreatW.PrintMore
attribute [local go_sem] max2_int min2_int max_two min_two max_three min_three max_four min_four   -- for this text's walks alone
set_option linter.unusedVariables false
set_option linter.unusedSimpArgs false
mutual
def spec_l11Talk.j0 : Nat → List (S83) → Bool → Int → Int → Int → Int → Int → Int → Int → Int → Int → Int → Int → Int → Int → Int → Int → Int → Int → Int → Int → Int → Option (Int)
 | 0,_,_,_,_,_,_,_,_,_,_,_,_,_,_,_,_,_,_,_,_,_,_ => none
 | k + 1,x0,x43,x164000,x164001,x164002,x164003,x164004,x164005,x164006,x164007,x164008,x164009,x164010,x164011,x164012,x164013,x164014,x164015,x164016,x164017,x164018,x164019 => if x43 = true then (some 3) else ((spec_WindowFault.f k x164018 x164019).bind fun t170 => (if t170 = 0 then ((spec_l11Shape.f k x164000 x164001 x164002 x164003 x164004 x164005 x164006 x164007 x164008 x164009 x164010 x164011 x164012 x164013 x164014 x164015 x164016 x164017 x164018 x164019).bind fun t171 => (if t171 = true then ((spec_l11Must.f x164000 x164001 x164002 x164003 x164004 x164005 x164006 x164007 x164008 x164009 x164010 x164011 x164012 x164013 x164014 x164015 x164016 x164017 x164018 x164019).bind fun bt172 => (spec_l11Talk.l0 k x0 bt172.1 bt172.2 0 x164000 x164001 x164002 x164003 x164004 x164005 x164006 x164007 x164008 x164009 x164010 x164011 x164012 x164013 x164014 x164015 x164016 x164017 x164018 x164019)) else (some 1))) else (some t170)))
def spec_l11Talk.l0 : Nat → List (S83) → List Int → List Int → Int → Int → Int → Int → Int → Int → Int → Int → Int → Int → Int → Int → Int → Int → Int → Int → Int → Int → Int → Int → Int → Option (Int)
 | 0,_,_,_,_,_,_,_,_,_,_,_,_,_,_,_,_,_,_,_,_,_,_,_,_ => none
 | k + 1,x0,x6,x7,x8,x164000,x164001,x164002,x164003,x164004,x164005,x164006,x164007,x164008,x164009,x164010,x164011,x164012,x164013,x164014,x164015,x164016,x164017,x164018,x164019 => if x8 < (x6.length : Int) then (if 0 ≤ x8 then ((spec_l5At.f x0 (rd x6 x8)).bind fun t179 => (if t179 = true then (spec_l11Talk.l0 k x0 x6 x7 (wrap64 (x8 + 1)) x164000 x164001 x164002 x164003 x164004 x164005 x164006 x164007 x164008 x164009 x164010 x164011 x164012 x164013 x164014 x164015 x164016 x164017 x164018 x164019) else (some 3))) else (none)) else (spec_l11Talk.l1 k x0 x7 0 x164000 x164001 x164002 x164003 x164004 x164005 x164006 x164007 x164008 x164009 x164010 x164011 x164012 x164013 x164014 x164015 x164016 x164017 x164018 x164019)
def spec_l11Talk.l1 : Nat → List (S83) → List Int → Int → Int → Int → Int → Int → Int → Int → Int → Int → Int → Int → Int → Int → Int → Int → Int → Int → Int → Int → Int → Int → Option (Int)
 | 0,_,_,_,_,_,_,_,_,_,_,_,_,_,_,_,_,_,_,_,_,_,_,_ => none
 | k + 1,x0,x7,x9,x164000,x164001,x164002,x164003,x164004,x164005,x164006,x164007,x164008,x164009,x164010,x164011,x164012,x164013,x164014,x164015,x164016,x164017,x164018,x164019 => if x9 < (x7.length : Int) then (if 0 ≤ x9 then (if (rd x7 x9) = (-1) then (spec_l11Talk.l1 k x0 x7 (wrap64 (x9 + 1)) x164000 x164001 x164002 x164003 x164004 x164005 x164006 x164007 x164008 x164009 x164010 x164011 x164012 x164013 x164014 x164015 x164016 x164017 x164018 x164019) else (some 3)) else (none)) else (if 0 ≤ x164007 then (if x164007 < (x0.length : Int) then (if ((rd_T83 x0 x164007).f0) = 2 then (if x164002 > 1 then (if 0 ≤ x164008 then (if x164008 < (x0.length : Int) then (if ((rd_T83 x0 x164008).f0) = 6 then (some 0) else (some 1)) else (none)) else (none)) else (some 0)) else (some 1)) else (none)) else (none))
end
def spec_l11Talk.f (k : Nat) (l0 : List (S83)) (a1_0 a1_1 a1_2 a1_3 a1_4 a1_5 a1_6 a1_7 a1_8 a1_9 a1_10 a1_11 a1_12 a1_13 a1_14 a1_15 a1_16 a1_17 a1_18 a1_19 : Int) : Option (Int):=(spec_l1In.f a1_0 0 9).bind fun t164 => (if t164 = true then ((spec_l1In.f a1_1 1 2).bind fun t165 => (if t165 = true then ((spec_l1In.f a1_2 1 3).bind fun t166 => (if t166 = true then ((spec_l9Word.f a1_3).bind fun t167 => (if t167 = true then ((spec_l9Word.f a1_4).bind fun t168 => (if t168 = true then ((spec_l9Word.f a1_17).bind fun t169 => (spec_l11Talk.j0 k l0 (!t169) a1_0 a1_1 a1_2 a1_3 a1_4 a1_5 a1_6 a1_7 a1_8 a1_9 a1_10 a1_11 a1_12 a1_13 a1_14 a1_15 a1_16 a1_17 a1_18 a1_19)) else (spec_l11Talk.j0 k l0 true a1_0 a1_1 a1_2 a1_3 a1_4 a1_5 a1_6 a1_7 a1_8 a1_9 a1_10 a1_11 a1_12 a1_13 a1_14 a1_15 a1_16 a1_17 a1_18 a1_19))) else (spec_l11Talk.j0 k l0 true a1_0 a1_1 a1_2 a1_3 a1_4 a1_5 a1_6 a1_7 a1_8 a1_9 a1_10 a1_11 a1_12 a1_13 a1_14 a1_15 a1_16 a1_17 a1_18 a1_19))) else (spec_l11Talk.j0 k l0 true a1_0 a1_1 a1_2 a1_3 a1_4 a1_5 a1_6 a1_7 a1_8 a1_9 a1_10 a1_11 a1_12 a1_13 a1_14 a1_15 a1_16 a1_17 a1_18 a1_19))) else (spec_l11Talk.j0 k l0 true a1_0 a1_1 a1_2 a1_3 a1_4 a1_5 a1_6 a1_7 a1_8 a1_9 a1_10 a1_11 a1_12 a1_13 a1_14 a1_15 a1_16 a1_17 a1_18 a1_19))) else (spec_l11Talk.j0 k l0 true a1_0 a1_1 a1_2 a1_3 a1_4 a1_5 a1_6 a1_7 a1_8 a1_9 a1_10 a1_11 a1_12 a1_13 a1_14 a1_15 a1_16 a1_17 a1_18 a1_19))
set_option maxHeartbeats 8000000 in
set_option maxRecDepth 100000 in
theorem spec_l11Talk.calls (k : Nat) (A0 : Option Addr) (c0 : Nat) (l0 : List (S83)) (a1_0 a1_1 a1_2 a1_3 a1_4 a1_5 a1_6 a1_7 a1_8 a1_9 a1_10 a1_11 a1_12 a1_13 a1_14 a1_15 a1_16 a1_17 a1_18 a1_19 r : Int) (w : World) (hr0 : Kd.C k83 w A0 l0.length l0) (hc0 : l0.length ≤ c0) (h : spec_l11Talk.f k l0 a1_0 a1_1 a1_2 a1_3 a1_4 a1_5 a1_6 a1_7 a1_8 a1_9 a1_10 a1_11 a1_12 a1_13 a1_14 a1_15 a1_16 a1_17 a1_18 a1_19 = some r) :
  Calls Tryz.prog 76 #[.slice A0 l0.length c0,.agg #[.int .i64 a1_0,.int .i64 a1_1,.int .i64 a1_2,.int .i64 a1_3,.int .i64 a1_4,.int .i64 a1_5,.int .i64 a1_6,.int .i64 a1_7,.int .i64 a1_8,.int .i64 a1_9,.int .i64 a1_10,.int .i64 a1_11,.int .i64 a1_12,.int .i64 a1_13,.int .i64 a1_14,.int .i64 a1_15,.int .i64 a1_16,.int .i64 a1_17,.int .i64 a1_18,.int .i64 a1_19]] w fun e w' => e = .returned (.int .i64 r) ∧ Below w.heap.size w w':=by
 have hu114:=Tryz.underlying114
 have hu112:=Tryz.underlying112
 have a5:=Z_ hr0
 have ai:=Z_ hc0
 clear hr0 hc0
 have HB:=Z_ (Below.refl w.heap.size w)
 unfold spec_l11Talk.f at h
 have H:=h
 clear h
 have a6:=Z_ H
 clear H
 go_enter Tryz.func76,Tryz.ntmps76
 go_upto_region 1 with (first | ((with_reducible refine gD_ 3 rfl ?_);refine bx_ #[.int .i64 a1_0,.int .i64 a1_1,.int .i64 a1_2,.int .i64 a1_3,.int .i64 a1_4,.int .i64 a1_5,.int .i64 a1_6,.int .i64 a1_7,.int .i64 a1_8,.int .i64 a1_9,.int .i64 a1_10,.int .i64 a1_11,.int .i64 a1_12,.int .i64 a1_13,.int .i64 a1_14,.int .i64 a1_15,.int .i64 a1_16,.int .i64 a1_17,.int .i64 a1_18,.int .i64 a1_19] 114 ?_;intro a3 hg w4 hbox hb;have a0:=Z_ hbox;have ar:=Z_ ((by rw [hg];exact (below_size Lb_) : w.heap.size ≤ a3));have a1:=Z_ ((by rw [hg];exact (below_size Lb_) : w.heap.size ≤ a3));replace HB:=Z_ (lP_ Lb_ hb);clear hb hbox hg))
 (try simp only [Act.put,lA_,lZ_,lS_])
 go_cut [43] (fun v43 wc => ∃ (kq : Nat) (x43_2 : Bool),v43 = .bool x43_2 ∧ Aside0 (spec_l11Talk.j0 kq l0 x43_2 a1_0 a1_1 a1_2 a1_3 a1_4 a1_5 a1_6 a1_7 a1_8 a1_9 a1_10 a1_11 a1_12 a1_13 a1_14 a1_15 a1_16 a1_17 a1_18 a1_19 = some r) ∧ Aside0 (kq ≤ k) ∧ Aside0 (wc.heap[a3]? = some (.cells #[.int .i64 a1_0,.int .i64 a1_1,.int .i64 a1_2,.int .i64 a1_3,.int .i64 a1_4,.int .i64 a1_5,.int .i64 a1_6,.int .i64 a1_7,.int .i64 a1_8,.int .i64 a1_9,.int .i64 a1_10,.int .i64 a1_11,.int .i64 a1_12,.int .i64 a1_13,.int .i64 a1_14,.int .i64 a1_15,.int .i64 a1_16,.int .i64 a1_17,.int .i64 a1_18,.int .i64 a1_19] 114 (0,0))) ∧ Aside0 (Below w.heap.size w wc))
 case first =>
  have H:=a6.out
  clear a6
  replace H:=bS_ H
  obtain ⟨t164,A5,H⟩:=H
  replace H:=iB_ H
  obtain ⟨rfl,H⟩ | ⟨rfl,H⟩:=H
  replace H:=bS_ H
  obtain ⟨t165,A7,H⟩:=H
  replace H:=iB_ H
  obtain ⟨rfl,H⟩ | ⟨rfl,H⟩:=H
  replace H:=bS_ H
  obtain ⟨t166,A9,H⟩:=H
  replace H:=iB_ H
  obtain ⟨rfl,H⟩ | ⟨rfl,H⟩:=H
  replace H:=bS_ H
  obtain ⟨t167,a8,H⟩:=H
  replace H:=iB_ H
  obtain ⟨rfl,H⟩ | ⟨rfl,H⟩:=H
  replace H:=bS_ H
  obtain ⟨t168,am,H⟩:=H
  replace H:=iB_ H
  obtain ⟨rfl,H⟩ | ⟨rfl,H⟩:=H
  replace H:=bS_ H
  obtain ⟨t169,ap,H⟩:=H
  all_goals
   have H':=Z_ H
   clear H
   obtain ⟨_,_,_,_,_,_,_,_,_,_,_,_,_,_,_,_,_,_,_,_,_,_,_,_,_,_,_,_,_,_,_,_,_,_,_,_,_,_,_,_⟩:=bc20 a0.out
   go_wp2_with (first | ((with_reducible refine gate_load_ (t:=114) rfl ?_);refine load_row_ (by rfl) (by rfl) (by rfl) (rowAt_block (t:=114) (cs:=[.int .i64 a1_0,.int .i64 a1_1,.int .i64 a1_2,.int .i64 a1_3,.int .i64 a1_4,.int .i64 a1_5,.int .i64 a1_6,.int .i64 a1_7,.int .i64 a1_8,.int .i64 a1_9,.int .i64 a1_10,.int .i64 a1_11,.int .i64 a1_12,.int .i64 a1_13,.int .i64 a1_14,.int .i64 a1_15,.int .i64 a1_16,.int .i64 a1_17,.int .i64 a1_18,.int .i64 a1_19]) (Bk_ a0)) Tryz.underlying114 rfl size114_ ?_) | ((with_reducible refine gate_callee (f:=47) rfl ?_);refine goesA_ (some 12) rfl rfl Tryz.func47 (by kernel_rfl) rfl #[.int .i64 a1_0,.int .i64 0,.int .i64 9] rfl ?_;(with_reducible refine (spec_l1In.calls a1_0 0 9 _ _ A5.out).mono ?_);rintro e w' ⟨rfl,⟨nd,rfl⟩⟩;refine ⟨_,rfl,?_⟩) | (go_at_call 47;(with_reducible refine (spec_l1In.calls a1_1 1 2 _ _ A7.out).mono ?_);rintro e w' ⟨rfl,⟨nd,rfl⟩⟩) | (go_at_call 47;(with_reducible refine (spec_l1In.calls a1_2 1 3 _ _ A9.out).mono ?_);rintro e w' ⟨rfl,⟨nd,rfl⟩⟩) | (go_at_call 92;(with_reducible refine (spec_l9Word.calls a1_3 _ _ a8.out).mono ?_);rintro e w' ⟨rfl,⟨nd,rfl⟩⟩) | (go_at_call 92;(with_reducible refine (spec_l9Word.calls a1_4 _ _ am.out).mono ?_);rintro e w' ⟨rfl,⟨nd,rfl⟩⟩) | (go_at_call 92;(with_reducible refine (spec_l9Word.calls a1_17 t169 _ ap.out).mono ?_);rintro e w' ⟨rfl,⟨nd,rfl⟩⟩))
   go_meet
   case rel => exact ⟨_,_,Sr_,H',Ol_,⟨Bk_ a0⟩,⟨Lb_⟩⟩
 case rest =>
  clear a6
  try clear c1
  try clear p2
  try clear c4
  try clear c6
  try clear c7
  try clear c8
  try clear c10
  try clear c12
  try clear c14
  obtain ⟨kq,x43_2,rfl,HA,HJ2,a0,HB⟩:=hcut
  cases kq with
  | zero => exact absurd HA.out (by simp [spec_l11Talk.j0])
  | succ kj2 =>
   have H:=HA.out
   clear HA
   simp only [spec_l11Talk.j0] at H
   replace H:=iB_ H
   obtain ⟨rfl,H⟩ | ⟨rfl,H⟩:=H
   rotate_left
   replace H:=bS_ H
   obtain ⟨t170,ac,H⟩:=H
   replace H:=iC_ H
   obtain ⟨c24,H⟩ | ⟨c24,H⟩:=H
   rotate_left
   focus
    have c24b0 : (t170 == 0) = false:=beq_eq_false_iff_ne.mpr c24
    have c24b1 : (t170 != 0) = true:=bne_iff_ne.mpr c24
   rotate_right
   have c24b0 : (t170 == 0) = true:=beq_iff_eq.mpr c24
   have c24b1 : (t170 != 0) = false:=bne_eq_false_iff_eq.mpr c24
   clear c24
   replace H:=bS_ H
   obtain ⟨t171,an,H⟩:=H
   replace H:=iB_ H
   obtain ⟨rfl,H⟩ | ⟨rfl,H⟩:=H
   ·replace H:=bS_ H
    obtain ⟨⟨t172,t175⟩,aq,H⟩:=H
    try dsimp only at H
    have H':=Z_ H
    clear H
    obtain ⟨_,_,_,_,_,_,_,_,_,_,_,_,_,_,_,_,_,_,_,_,_,_,_,_,_,_,_,_,_,_,_,_,_,_,_,_,_,_,_,_⟩:=bc20 a0.out
    go_wp2_with (first | ((with_reducible refine gate_load_ (t:=114) rfl ?_);refine load_row_ (by rfl) (by rfl) (by rfl) (rowAt_block (t:=114) (cs:=[.int .i64 a1_0,.int .i64 a1_1,.int .i64 a1_2,.int .i64 a1_3,.int .i64 a1_4,.int .i64 a1_5,.int .i64 a1_6,.int .i64 a1_7,.int .i64 a1_8,.int .i64 a1_9,.int .i64 a1_10,.int .i64 a1_11,.int .i64 a1_12,.int .i64 a1_13,.int .i64 a1_14,.int .i64 a1_15,.int .i64 a1_16,.int .i64 a1_17,.int .i64 a1_18,.int .i64 a1_19]) (Bk_ a0)) Tryz.underlying114 rfl size114_ ?_) | ((with_reducible refine gate_callee (f:=93) rfl ?_);refine goesA_ (some 46) rfl rfl Tryz.func93 (by kernel_rfl) rfl #[.agg #[.int .i64 a1_18,.int .i64 a1_19]] rfl ?_;(with_reducible refine (spec_WindowFault.calls kj2 a1_18 a1_19 t170 _ ac.out).mono ?_);rintro e w29 ⟨rfl,hb⟩;refine ⟨_,rfl,?_⟩;replace a0:=Z_ (bB_ (g:=a3) (o:=.cells #[.int .i64 a1_0,.int .i64 a1_1,.int .i64 a1_2,.int .i64 a1_3,.int .i64 a1_4,.int .i64 a1_5,.int .i64 a1_6,.int .i64 a1_7,.int .i64 a1_8,.int .i64 a1_9,.int .i64 a1_10,.int .i64 a1_11,.int .i64 a1_12,.int .i64 a1_13,.int .i64 a1_14,.int .i64 a1_15,.int .i64 a1_16,.int .i64 a1_17,.int .i64 a1_18,.int .i64 a1_19] 114 (0,0)) (Bk_ a0) hb);replace HB:=Z_ (lP_ Lb_ hb);(try clear hb);obtain ⟨_,_,_,_,_,_,_,_,_,_,_,_,_,_,_,_,_,_,_,_,_,_,_,_,_,_,_,_,_,_,_,_,_,_,_,_,_,_,_,_⟩:=bc20 a0.out) | ((with_reducible refine gate_callee (f:=94) rfl ?_);refine goesA_ (some 51) rfl rfl Tryz.func94 (by kernel_rfl) rfl #[.agg #[.int .i64 a1_0,.int .i64 a1_1,.int .i64 a1_2,.int .i64 a1_3,.int .i64 a1_4,.int .i64 a1_5,.int .i64 a1_6,.int .i64 a1_7,.int .i64 a1_8,.int .i64 a1_9,.int .i64 a1_10,.int .i64 a1_11,.int .i64 a1_12,.int .i64 a1_13,.int .i64 a1_14,.int .i64 a1_15,.int .i64 a1_16,.int .i64 a1_17,.int .i64 a1_18,.int .i64 a1_19]] rfl ?_;(with_reducible refine (spec_l11Shape.calls kj2 a1_0 a1_1 a1_2 a1_3 a1_4 a1_5 a1_6 a1_7 a1_8 a1_9 a1_10 a1_11 a1_12 a1_13 a1_14 a1_15 a1_16 a1_17 a1_18 a1_19 true _ an.out).mono ?_);rintro e w31 ⟨rfl,hb⟩;refine ⟨_,rfl,?_⟩;replace a0:=Z_ (bB_ a0.out hb);replace HB:=Z_ (lP_ HB.out hb);(try clear hb);obtain ⟨_,_,_,_,_,_,_,_,_,_,_,_,_,_,_,_,_,_,_,_,_,_,_,_,_,_,_,_,_,_,_,_,_,_,_,_,_,_,_,_⟩:=bc20 a0.out) | ((with_reducible refine gate_callee (f:=95) rfl ?_);refine goesA_ (some 55) rfl rfl Tryz.func95 (by kernel_rfl) rfl #[.agg #[.int .i64 a1_0,.int .i64 a1_1,.int .i64 a1_2,.int .i64 a1_3,.int .i64 a1_4,.int .i64 a1_5,.int .i64 a1_6,.int .i64 a1_7,.int .i64 a1_8,.int .i64 a1_9,.int .i64 a1_10,.int .i64 a1_11,.int .i64 a1_12,.int .i64 a1_13,.int .i64 a1_14,.int .i64 a1_15,.int .i64 a1_16,.int .i64 a1_17,.int .i64 a1_18,.int .i64 a1_19]] rfl ?_;(with_reducible refine (spec_l11Must.calls a1_0 a1_1 a1_2 a1_3 a1_4 a1_5 a1_6 a1_7 a1_8 a1_9 a1_10 a1_11 a1_12 a1_13 a1_14 a1_15 a1_16 a1_17 a1_18 a1_19 t172 t175 _ aq.out).mono ?_);rintro e w33 ⟨v173,v176,rfl,ho0,ho1,hb⟩;refine ⟨_,rfl,?_⟩;have ag:=Z_ (Kd.R_lower ho0 (below_size HB.out));have ah:=Z_ (Kd.R_lower ho1 (below_size HB.out));replace a0:=Z_ (bB_ a0.out hb);replace HB:=Z_ (lP_ HB.out hb);(try clear hb);(try clear ho0);(try clear ho1)))
    go_loopg [8] kj2 (fun kq v8 w' => ∃ (x8_2 : Int),v8 = .int .i64 x8_2 ∧ Aside0 (spec_l11Talk.l0 kq l0 t172 t175 x8_2 a1_0 a1_1 a1_2 a1_3 a1_4 a1_5 a1_6 a1_7 a1_8 a1_9 a1_10 a1_11 a1_12 a1_13 a1_14 a1_15 a1_16 a1_17 a1_18 a1_19 = some r) ∧ Aside0 (kq ≤ kj2) ∧ Aside0 (Kd.R (Kd.int .i64) 2 w' w.heap.size (fun k_ => some k_ ≠ (v176 : Value).ownBlock) v173 t172) ∧ Aside0 (Kd.R (Kd.int .i64) 2 w' w.heap.size (fun k_ => some k_ ≠ (v173 : Value).ownBlock) v176 t175) ∧ Aside0 (w'.heap[a3]? = some (.cells #[.int .i64 a1_0,.int .i64 a1_1,.int .i64 a1_2,.int .i64 a1_3,.int .i64 a1_4,.int .i64 a1_5,.int .i64 a1_6,.int .i64 a1_7,.int .i64 a1_8,.int .i64 a1_9,.int .i64 a1_10,.int .i64 a1_11,.int .i64 a1_12,.int .i64 a1_13,.int .i64 a1_14,.int .i64 a1_15,.int .i64 a1_16,.int .i64 a1_17,.int .i64 a1_18,.int .i64 a1_19] 114 (0,0))) ∧ Aside0 (Below w.heap.size w w'))
    case atStart => exact ⟨(0),Sr_,H',⟨Nat.le_refl _⟩,⟨Rk_ ag⟩,⟨Rk_ ah⟩,⟨Bk_ a0⟩,⟨Lb_⟩⟩
    case round =>
     clear H'
     try clear c1
     try clear c2
     try clear p2
     try clear c4
     try clear c6
     try clear c7
     try clear c8
     try clear c9
     try clear c10
     try clear c12
     try clear c14
     try clear c22
     try clear c24
     try clear c24b0
     try clear c24b1
     try clear c26
     try clear p2
     obtain ⟨x8_2,rfl,HA,HK2,a4,a2,a0,HB⟩:=hrel
     cases gk with
     | zero => exact absurd HA.out (by simp [spec_l11Talk.l0])
     | succ k2 =>
      have H:=HA.out
      clear HA
      simp only [spec_l11Talk.l0] at H
      replace H:=iC_ H
      obtain ⟨c34,H⟩ | ⟨c34,H⟩:=H
      ·have c34b0 : decide (x8_2 < (t172.length : Int)) = true:=decide_eq_true c34
       clear c34
       replace H:=iM_ H
       obtain ⟨c35b0,H⟩:=H
       replace H:=bS_ H
       obtain ⟨t179,ao,H⟩:=H
       replace H:=iB_ H
       obtain ⟨rfl,H⟩ | ⟨rfl,H⟩:=H
       rotate_left
       ·obtain rfl:=Option.some.inj H
        obtain ⟨aw,ax,eo39⟩:=Kd.R_slice a4.out
        subst eo39
        have p178 : 0 ≤ (x8_2 : Int):=dA_
        have q178 : x8_2 < (t172.length : Int):=dA_
        obtain ⟨ad178,e178,hx178_0⟩:=Kd.at_int (Kd.R_reads' a4.out).2.2 x8_2 p178 q178
        cases e178
        replace p178:=eq_true p178
        replace q178:=eq_true q178
        go_wp2_with (first | ((with_reducible refine gate_load_ (t:=114) rfl ?_);refine load_row_ (by rfl) (by rfl) (by rfl) (rowAt_block (t:=114) (cs:=[.int .i64 a1_0,.int .i64 a1_1,.int .i64 a1_2,.int .i64 a1_3,.int .i64 a1_4,.int .i64 a1_5,.int .i64 a1_6,.int .i64 a1_7,.int .i64 a1_8,.int .i64 a1_9,.int .i64 a1_10,.int .i64 a1_11,.int .i64 a1_12,.int .i64 a1_13,.int .i64 a1_14,.int .i64 a1_15,.int .i64 a1_16,.int .i64 a1_17,.int .i64 a1_18,.int .i64 a1_19]) (Bk_ a0)) Tryz.underlying114 rfl size114_ ?_) | ((with_reducible refine gate_callee (f:=21) rfl ?_);refine goesA_ (some 69) rfl rfl Tryz.func21 (by kernel_rfl) rfl #[.slice A0 l0.length c0,.int .i64 (rd t172 x8_2)] rfl ?_;(with_reducible refine (spec_l5At.calls _ _ l0 (rd t172 x8_2) false _ ?side1 ?side2 ao.out).mono ?_);(case side1 => exact Cb_ a5);(case side2 => exact ai.out);rintro e w' ⟨rfl,⟨nd,rfl⟩⟩;refine ⟨_,rfl,?_⟩))
        go_ret
        exact ⟨Er_,Lb_⟩
       rotate_right
       have H':=Z_ H
       clear H
       obtain ⟨au,av,eo38⟩:=Kd.R_slice a4.out
       subst eo38
       have p178 : 0 ≤ (x8_2 : Int):=dA_
       have q178 : x8_2 < (t172.length : Int):=dA_
       obtain ⟨ad178,e178,hx178_0⟩:=Kd.at_int (Kd.R_reads' a4.out).2.2 x8_2 p178 q178
       cases e178
       replace p178:=eq_true p178
       replace q178:=eq_true q178
       go_wp2_with (first | ((with_reducible refine gate_load_ (t:=114) rfl ?_);refine load_row_ (by rfl) (by rfl) (by rfl) (rowAt_block (t:=114) (cs:=[.int .i64 a1_0,.int .i64 a1_1,.int .i64 a1_2,.int .i64 a1_3,.int .i64 a1_4,.int .i64 a1_5,.int .i64 a1_6,.int .i64 a1_7,.int .i64 a1_8,.int .i64 a1_9,.int .i64 a1_10,.int .i64 a1_11,.int .i64 a1_12,.int .i64 a1_13,.int .i64 a1_14,.int .i64 a1_15,.int .i64 a1_16,.int .i64 a1_17,.int .i64 a1_18,.int .i64 a1_19]) (Bk_ a0)) Tryz.underlying114 rfl size114_ ?_) | ((with_reducible refine gate_callee (f:=21) rfl ?_);refine goesA_ (some 69) rfl rfl Tryz.func21 (by kernel_rfl) rfl #[.slice A0 l0.length c0,.int .i64 (rd t172 x8_2)] rfl ?_;(with_reducible refine (spec_l5At.calls _ _ l0 (rd t172 x8_2) true _ ?side1 ?side2 ao.out).mono ?_);(case side1 => exact Cb_ a5);(case side2 => exact ai.out);rintro e w' ⟨rfl,⟨nd,rfl⟩⟩;refine ⟨_,rfl,?_⟩))
       go_roundg k2
       case measure => have:=HJ2.out;have:=HK2.out;omega
       case rel => exact ⟨(wrap64 (x8_2 + 1)),Sr_,H',⟨by have:=HJ2.out;have:=HK2.out;omega⟩,⟨Rk_ a4⟩,⟨Rk_ a2⟩,⟨Bk_ a0⟩,⟨Lb_⟩⟩
      have c34b0 : decide (x8_2 < (t172.length : Int)) = false:=decide_eq_false c34
      clear c34
      have H':=Z_ H
      clear H
      obtain ⟨ay,az,eo40⟩:=Kd.R_slice a4.out
      subst eo40
      go_wp2
      go_loopg [9] k2 (fun kq v9 w' => ∃ (x9_3 : Int),v9 = .int .i64 x9_3 ∧ Aside0 (spec_l11Talk.l1 kq l0 t175 x9_3 a1_0 a1_1 a1_2 a1_3 a1_4 a1_5 a1_6 a1_7 a1_8 a1_9 a1_10 a1_11 a1_12 a1_13 a1_14 a1_15 a1_16 a1_17 a1_18 a1_19 = some r) ∧ Aside0 (kq ≤ k2) ∧ Aside0 (Kd.R (Kd.int .i64) 2 w' w.heap.size (fun _ => True) v176 t175) ∧ Aside0 (w'.heap[a3]? = some (.cells #[.int .i64 a1_0,.int .i64 a1_1,.int .i64 a1_2,.int .i64 a1_3,.int .i64 a1_4,.int .i64 a1_5,.int .i64 a1_6,.int .i64 a1_7,.int .i64 a1_8,.int .i64 a1_9,.int .i64 a1_10,.int .i64 a1_11,.int .i64 a1_12,.int .i64 a1_13,.int .i64 a1_14,.int .i64 a1_15,.int .i64 a1_16,.int .i64 a1_17,.int .i64 a1_18,.int .i64 a1_19] 114 (0,0))) ∧ Aside0 (Below w.heap.size w w'))
      case atStart => exact ⟨(0),Sr_,H',⟨Nat.le_refl _⟩,⟨by (with_reducible repeat first | apply rA_ | apply rN_ | apply rD_);exact Kd.R_mono a2.out (fun _ hk => trivial)⟩,⟨Bk_ a0⟩,⟨Lb_⟩⟩
      case round =>
       clear H'
       try clear c1
       try clear p1
       try clear q1
       try clear hx1
       try clear c2
       try clear p2
       try clear c3
       try clear c4
       try clear c6
       try clear p6
       try clear c7
       try clear c8
       try clear c9
       try clear c10
       try clear c12
       try clear c14
       try clear p17
       try clear q17
       try clear hx17
       try clear c21
       try clear c22
       try clear c24
       try clear c24b0
       try clear c24b1
       try clear c26
       try clear c34
       try clear c34b0
       try clear c35
       try clear c35b0
       try clear c37
       try clear hx178_0
       try clear p178
       try clear p2
       try clear q178
       obtain ⟨x9_3,rfl,HA,HK3,a2,a0,HB⟩:=hrel
       cases gk with
       | zero => exact absurd HA.out (by simp [spec_l11Talk.l1])
       | succ k3 =>
        have H:=HA.out
        clear HA
        simp only [spec_l11Talk.l1] at H
        replace H:=iD_ H
        obtain ⟨c41b0,H⟩ | ⟨c41b0,H⟩:=H
        ·replace H:=iM_ H
         obtain ⟨c42b0,H⟩:=H
         replace H:=iE_ H
         obtain ⟨c43b0,c43b1,H⟩ | ⟨c43b0,c43b1,H⟩:=H
         rotate_left
         ·obtain rfl:=Option.some.inj H
          obtain ⟨b2,b3,eo45⟩:=Kd.R_slice a2.out
          subst eo45
          have p180 : 0 ≤ (x9_3 : Int):=dA_
          have q180 : x9_3 < (t175.length : Int):=dA_
          obtain ⟨ad180,e180,hx180_0⟩:=Kd.at_int (Kd.R_reads' a2.out).2.2 x9_3 p180 q180
          cases e180
          replace p180:=eq_true p180
          replace q180:=eq_true q180
          go_wp2
          go_ret
          exact ⟨Er_,Lb_⟩
         rotate_right
         have H':=Z_ H
         clear H
         obtain ⟨b0,b1,eo44⟩:=Kd.R_slice a2.out
         subst eo44
         have p180 : 0 ≤ (x9_3 : Int):=dA_
         have q180 : x9_3 < (t175.length : Int):=dA_
         obtain ⟨ad180,e180,hx180_0⟩:=Kd.at_int (Kd.R_reads' a2.out).2.2 x9_3 p180 q180
         cases e180
         replace p180:=eq_true p180
         replace q180:=eq_true q180
         go_wp2
         go_roundg k3
         case measure => have:=HJ2.out;have:=HK2.out;have:=HK3.out;omega
         case rel => exact ⟨(wrap64 (x9_3 + 1)),Sr_,H',⟨by have:=HJ2.out;have:=HK2.out;have:=HK3.out;omega⟩,⟨Rk_ a2⟩,⟨Bk_ a0⟩,⟨Lb_⟩⟩
        replace H:=iM_ H
        obtain ⟨c46b0,H⟩:=H
        replace H:=iM_ H
        obtain ⟨c47b0,H⟩:=H
        replace H:=iE_ H
        obtain ⟨c48b0,c48b1,H⟩ | ⟨c48b0,c48b1,H⟩:=H
        rotate_left
        ·obtain rfl:=Option.some.inj H
         obtain ⟨ba,bb,eo59⟩:=Kd.R_slice a2.out
         subst eo59
         obtain ⟨_,_,_,_,_,_,_,_,_,_,_,_,_,_,_,_,_,_,_,_,_,_,_,_,_,_,_,_,_,_,_,_,_,_,_,_,_,_,_,_⟩:=bc20 a0.out
         have p181 : 0 ≤ (a1_7 : Int):=dA_
         have q181 : a1_7 < (l0.length : Int):=dA_
         obtain ⟨ad181,e181,hx181_0,hx181_1,hx181_2,hx181_3⟩:=at_T83 a5.out a1_7 p181 q181
         cases e181
         replace hx181_0:=cB_ HB hx181_0
         replace hx181_1:=cB_ HB hx181_1
         replace hx181_2:=cB_ HB hx181_2
         replace hx181_3:=cB_ HB hx181_3
         replace p181:=eq_true p181
         replace q181:=eq_true q181
         go_wp2
         go_ret
         exact ⟨Er_,Lb_⟩
        rotate_right
        replace H:=iD_ H
        obtain ⟨c49b0,H⟩ | ⟨c49b0,H⟩:=H
        rotate_left
        ·replace c49b0 : decide (1 < a1_2) = false:=c49b0
         obtain rfl:=Option.some.inj H
         obtain ⟨b8,b9,eo57⟩:=Kd.R_slice a2.out
         subst eo57
         obtain ⟨_,_,_,_,_,_,_,_,_,_,_,_,_,_,_,_,_,_,_,_,_,_,_,_,_,_,_,_,_,_,_,_,_,_,_,_,_,_,_,_⟩:=bc20 a0.out
         have p181 : 0 ≤ (a1_7 : Int):=dA_
         have q181 : a1_7 < (l0.length : Int):=dA_
         obtain ⟨ad181,e181,hx181_0,hx181_1,hx181_2,hx181_3⟩:=at_T83 a5.out a1_7 p181 q181
         cases e181
         replace hx181_0:=cB_ HB hx181_0
         replace hx181_1:=cB_ HB hx181_1
         replace hx181_2:=cB_ HB hx181_2
         replace hx181_3:=cB_ HB hx181_3
         replace p181:=eq_true p181
         replace q181:=eq_true q181
         go_wp2
         go_ret
         exact ⟨Er_,Lb_⟩
        rotate_right
        replace c49b0 : decide (1 < a1_2) = true:=c49b0
        replace H:=iM_ H
        obtain ⟨c50b0,H⟩:=H
        replace H:=iM_ H
        obtain ⟨c51b0,H⟩:=H
        replace H:=iE_ H
        obtain ⟨c52b0,c52b1,H⟩ | ⟨c52b0,c52b1,H⟩:=H
        rotate_left
        ·obtain rfl:=Option.some.inj H
         obtain ⟨b6,b7,eo55⟩:=Kd.R_slice a2.out
         subst eo55
         obtain ⟨_,_,_,_,_,_,_,_,_,_,_,_,_,_,_,_,_,_,_,_,_,_,_,_,_,_,_,_,_,_,_,_,_,_,_,_,_,_,_,_⟩:=bc20 a0.out
         have p181 : 0 ≤ (a1_7 : Int):=dA_
         have q181 : a1_7 < (l0.length : Int):=dA_
         obtain ⟨ad181,e181,hx181_0,hx181_1,hx181_2,hx181_3⟩:=at_T83 a5.out a1_7 p181 q181
         cases e181
         replace hx181_0:=cB_ HB hx181_0
         replace hx181_1:=cB_ HB hx181_1
         replace hx181_2:=cB_ HB hx181_2
         replace hx181_3:=cB_ HB hx181_3
         replace p181:=eq_true p181
         replace q181:=eq_true q181
         have p182 : 0 ≤ (a1_8 : Int):=dA_
         have q182 : a1_8 < (l0.length : Int):=dA_
         obtain ⟨ad182,e182,hx182_0,hx182_1,hx182_2,hx182_3⟩:=at_T83 a5.out a1_8 p182 q182
         obtain rfl : ad181 = ad182:=(by injection e182)
         replace hx182_0:=cB_ HB hx182_0
         replace hx182_1:=cB_ HB hx182_1
         replace hx182_2:=cB_ HB hx182_2
         replace hx182_3:=cB_ HB hx182_3
         replace p182:=eq_true p182
         replace q182:=eq_true q182
         go_wp2
         go_ret
         exact ⟨Er_,Lb_⟩
        rotate_right
        obtain rfl:=Option.some.inj H
        obtain ⟨b4,b5,eo53⟩:=Kd.R_slice a2.out
        subst eo53
        obtain ⟨_,_,_,_,_,_,_,_,_,_,_,_,_,_,_,_,_,_,_,_,_,_,_,_,_,_,_,_,_,_,_,_,_,_,_,_,_,_,_,_⟩:=bc20 a0.out
        have p181 : 0 ≤ (a1_7 : Int):=dA_
        have q181 : a1_7 < (l0.length : Int):=dA_
        obtain ⟨ad181,e181,hx181_0,hx181_1,hx181_2,hx181_3⟩:=at_T83 a5.out a1_7 p181 q181
        cases e181
        replace hx181_0:=cB_ HB hx181_0
        replace hx181_1:=cB_ HB hx181_1
        replace hx181_2:=cB_ HB hx181_2
        replace hx181_3:=cB_ HB hx181_3
        replace p181:=eq_true p181
        replace q181:=eq_true q181
        have p182 : 0 ≤ (a1_8 : Int):=dA_
        have q182 : a1_8 < (l0.length : Int):=dA_
        obtain ⟨ad182,e182,hx182_0,hx182_1,hx182_2,hx182_3⟩:=at_T83 a5.out a1_8 p182 q182
        obtain rfl : ad181 = ad182:=(by injection e182)
        replace hx182_0:=cB_ HB hx182_0
        replace hx182_1:=cB_ HB hx182_1
        replace hx182_2:=cB_ HB hx182_2
        replace hx182_3:=cB_ HB hx182_3
        replace p182:=eq_true p182
        replace q182:=eq_true q182
        go_wp2
        go_ret
        exact ⟨Er_,Lb_⟩
   all_goals
    obtain rfl:=Option.some.inj H
    try obtain ⟨_,_,_,_,_,_,_,_,_,_,_,_,_,_,_,_,_,_,_,_,_,_,_,_,_,_,_,_,_,_,_,_,_,_,_,_,_,_,_,_⟩:=bc20 a0.out
    go_wp2_with (first | ((with_reducible refine gate_load_ (t:=114) rfl ?_);refine load_row_ (by rfl) (by rfl) (by rfl) (rowAt_block (t:=114) (cs:=[.int .i64 a1_0,.int .i64 a1_1,.int .i64 a1_2,.int .i64 a1_3,.int .i64 a1_4,.int .i64 a1_5,.int .i64 a1_6,.int .i64 a1_7,.int .i64 a1_8,.int .i64 a1_9,.int .i64 a1_10,.int .i64 a1_11,.int .i64 a1_12,.int .i64 a1_13,.int .i64 a1_14,.int .i64 a1_15,.int .i64 a1_16,.int .i64 a1_17,.int .i64 a1_18,.int .i64 a1_19]) (Bk_ a0)) Tryz.underlying114 rfl size114_ ?_) | ((with_reducible refine gate_callee (f:=93) rfl ?_);refine goesA_ (some 46) rfl rfl Tryz.func93 (by kernel_rfl) rfl #[.agg #[.int .i64 a1_18,.int .i64 a1_19]] rfl ?_;(with_reducible refine (spec_WindowFault.calls kj2 a1_18 a1_19 t170 _ ac.out).mono ?_);rintro e w62 ⟨rfl,hb⟩;refine ⟨_,rfl,?_⟩;replace a0:=Z_ (bB_ (g:=a3) (o:=.cells #[.int .i64 a1_0,.int .i64 a1_1,.int .i64 a1_2,.int .i64 a1_3,.int .i64 a1_4,.int .i64 a1_5,.int .i64 a1_6,.int .i64 a1_7,.int .i64 a1_8,.int .i64 a1_9,.int .i64 a1_10,.int .i64 a1_11,.int .i64 a1_12,.int .i64 a1_13,.int .i64 a1_14,.int .i64 a1_15,.int .i64 a1_16,.int .i64 a1_17,.int .i64 a1_18,.int .i64 a1_19] 114 (0,0)) (Bk_ a0) hb);replace HB:=Z_ (lP_ Lb_ hb);(try clear hb);obtain ⟨_,_,_,_,_,_,_,_,_,_,_,_,_,_,_,_,_,_,_,_,_,_,_,_,_,_,_,_,_,_,_,_,_,_,_,_,_,_,_,_⟩:=bc20 a0.out) | ((with_reducible refine gate_callee (f:=94) rfl ?_);refine goesA_ (some 51) rfl rfl Tryz.func94 (by kernel_rfl) rfl #[.agg #[.int .i64 a1_0,.int .i64 a1_1,.int .i64 a1_2,.int .i64 a1_3,.int .i64 a1_4,.int .i64 a1_5,.int .i64 a1_6,.int .i64 a1_7,.int .i64 a1_8,.int .i64 a1_9,.int .i64 a1_10,.int .i64 a1_11,.int .i64 a1_12,.int .i64 a1_13,.int .i64 a1_14,.int .i64 a1_15,.int .i64 a1_16,.int .i64 a1_17,.int .i64 a1_18,.int .i64 a1_19]] rfl ?_;(with_reducible refine (spec_l11Shape.calls kj2 a1_0 a1_1 a1_2 a1_3 a1_4 a1_5 a1_6 a1_7 a1_8 a1_9 a1_10 a1_11 a1_12 a1_13 a1_14 a1_15 a1_16 a1_17 a1_18 a1_19 _ _ an.out).mono ?_);rintro e w64 ⟨rfl,hb⟩;refine ⟨_,rfl,?_⟩;replace HB:=Z_ (lP_ Lb_ hb);(try clear hb)))
    go_ret
    exact ⟨Er_,Lb_⟩
mutual
def spec_l11Gate.j0 : Nat → List (S83) → Bool → Int → Int → List (S114) → Option (Int)
 | 0,_,_,_,_,_ => none
 | k + 1,x0,x16,x184000,x184001,x184002 => if x16 = true then (some 3) else (if (x184002.length : Int) > 12 then (some 2) else (spec_l11Gate.l0 k x0 0 x184000 x184001 x184002))
def spec_l11Gate.l0 : Nat → List (S83) → Int → Int → Int → List (S114) → Option (Int)
 | 0,_,_,_,_,_ => none
 | k + 1,x0,x5,x184000,x184001,x184002 => if x5 < (x184002.length : Int) then (if 0 ≤ x5 then ((spec_l11Talk.f k x0 ((rd_T114 x184002 x5).f0) ((rd_T114 x184002 x5).f1) ((rd_T114 x184002 x5).f2) ((rd_T114 x184002 x5).f3) ((rd_T114 x184002 x5).f4) ((rd_T114 x184002 x5).f5) ((rd_T114 x184002 x5).f6) ((rd_T114 x184002 x5).f7) ((rd_T114 x184002 x5).f8) ((rd_T114 x184002 x5).f9) ((rd_T114 x184002 x5).f10) ((rd_T114 x184002 x5).f11.f0) ((rd_T114 x184002 x5).f11.f1) ((rd_T114 x184002 x5).f11.f2) ((rd_T114 x184002 x5).f11.f3) ((rd_T114 x184002 x5).f12) ((rd_T114 x184002 x5).f13) ((rd_T114 x184002 x5).f14) ((rd_T114 x184002 x5).f15.f0) ((rd_T114 x184002 x5).f15.f1)).bind fun t187 => (if t187 = 0 then (spec_l11Gate.l0 k x0 (wrap64 (x5 + 1)) x184000 x184001 x184002) else (some t187))) else (none)) else (some 0)
end
def spec_l11Gate.f (k : Nat) (l0 : List (S83)) (a1_0 a1_1 : Int) (l1_2 : List (S114)) : Option (Int):=(spec_l1In.f a1_0 1 9).bind fun t184 => (if t184 = true then ((spec_l1In.f a1_1 0 90).bind fun t185 => (spec_l11Gate.j0 k l0 (!t185) a1_0 a1_1 l1_2)) else (spec_l11Gate.j0 k l0 true a1_0 a1_1 l1_2))
set_option maxHeartbeats 8000000 in
set_option maxRecDepth 100000 in
theorem spec_l11Gate.calls (k : Nat) (A0 : Option Addr) (c0 : Nat) (l0 : List (S83)) (a1_0 a1_1 : Int) (A1_2 : Option Addr) (c1_2 : Nat) (l1_2 : List (S114)) (r : Int) (w : World) (hr0 : Kd.C k83 w A0 l0.length l0) (hc0 : l0.length ≤ c0) (hr1_2 : Kd.C k114 w A1_2 l1_2.length l1_2) (hc1_2 : l1_2.length ≤ c1_2) (h : spec_l11Gate.f k l0 a1_0 a1_1 l1_2 = some r) :
  Calls Tryz.prog 43 #[.slice A0 l0.length c0,.agg #[.int .i64 a1_0,.int .i64 a1_1,.slice A1_2 l1_2.length c1_2]] w fun e w' => e = .returned (.int .i64 r) ∧ Below w.heap.size w w':=by
 have hu76:=Tryz.underlying76
 have hu114:=Tryz.underlying114
 have a5:=Z_ hr0
 have a6:=Z_ hc0
 clear hr0 hc0
 have HR1_2:=Z_ hr1_2
 have HC1_2:=Z_ hc1_2
 clear hr1_2 hc1_2
 have HB:=Z_ (Below.refl w.heap.size w)
 unfold spec_l11Gate.f at h
 have H:=h
 clear h
 have a3:=Z_ H
 clear H
 go_enter Tryz.func43,Tryz.ntmps43
 go_upto_region 1 with (first | ((with_reducible refine gD_ 3 rfl ?_);refine bx_ #[.int .i64 a1_0,.int .i64 a1_1,.slice A1_2 l1_2.length c1_2] 76 ?_;intro a2 hg w4 hbox hb;have a0:=Z_ hbox;have aa:=Z_ ((by rw [hg];exact (below_size Lb_) : w.heap.size ≤ a2));have a1:=Z_ ((by rw [hg];exact (below_size Lb_) : w.heap.size ≤ a2));replace HB:=Z_ (lP_ Lb_ hb);clear hb hbox hg))
 (try simp only [Act.put,lA_,lZ_,lS_])
 go_cut [16] (fun v16 wc => ∃ (kq : Nat) (x16_2 : Bool),v16 = .bool x16_2 ∧ Aside0 (spec_l11Gate.j0 kq l0 x16_2 a1_0 a1_1 l1_2 = some r) ∧ Aside0 (kq ≤ k) ∧ Aside0 (wc.heap[a2]? = some (.cells #[.int .i64 a1_0,.int .i64 a1_1,(.slice A1_2 l1_2.length c1_2)] 76 (0,0))) ∧ Aside0 (Below w.heap.size w wc))
 case first =>
  have H:=a3.out
  clear a3
  replace H:=bS_ H
  obtain ⟨t184,A5,H⟩:=H
  replace H:=iB_ H
  obtain ⟨rfl,H⟩ | ⟨rfl,H⟩:=H
  replace H:=bS_ H
  obtain ⟨t185,A7,H⟩:=H
  all_goals
   have H':=Z_ H
   clear H
   obtain ⟨_,_,_,_,_,_⟩:=bc3 a0.out
   go_wp2_with (first | ((with_reducible refine gate_callee (f:=47) rfl ?_);refine goesA_ (some 9) rfl rfl Tryz.func47 (by kernel_rfl) rfl #[.int .i64 a1_0,.int .i64 1,.int .i64 9] rfl ?_;(with_reducible refine (spec_l1In.calls a1_0 1 9 _ _ A5.out).mono ?_);rintro e w' ⟨rfl,⟨nd,rfl⟩⟩;refine ⟨_,rfl,?_⟩) | (go_at_call 47;(with_reducible refine (spec_l1In.calls a1_1 0 90 t185 _ A7.out).mono ?_);rintro e w' ⟨rfl,⟨nd,rfl⟩⟩))
   go_meet
   case rel => exact ⟨_,_,Sr_,H',Ol_,⟨Bk_ a0⟩,⟨Lb_⟩⟩
 case rest =>
  clear a3
  try clear c1
  try clear p2
  try clear c4
  try clear c6
  obtain ⟨kq,x16_2,rfl,HA,HJ2,a0,HB⟩:=hcut
  cases kq with
  | zero => exact absurd HA.out (by simp [spec_l11Gate.j0])
  | succ kj2 =>
   have H:=HA.out
   clear HA
   simp only [spec_l11Gate.j0] at H
   replace H:=iB_ H
   obtain ⟨rfl,H⟩ | ⟨rfl,H⟩:=H
   rotate_left
   replace H:=iC_ H
   obtain ⟨c11,H⟩ | ⟨c11,H⟩:=H
   focus
    have c11b0 : decide (12 < (l1_2.length : Int)) = true:=decide_eq_true c11
    have c11b1 : decide (12 < l1_2.length) = true:=decide_eq_true (by omega)
    clear c11
   rotate_left
   ·have c11b0 : decide (12 < (l1_2.length : Int)) = false:=decide_eq_false c11
    have c11b1 : decide (12 < l1_2.length) = false:=decide_eq_false (by omega)
    clear c11
    have H':=Z_ H
    clear H
    obtain ⟨_,_,_,_,_,_⟩:=bc3 a0.out
    go_wp2
    go_loopg [5] kj2 (fun kq v5 w' => ∃ (x5_2 : Int),v5 = .int .i64 x5_2 ∧ Aside0 (spec_l11Gate.l0 kq l0 x5_2 a1_0 a1_1 l1_2 = some r) ∧ Aside0 (kq ≤ kj2) ∧ Aside0 (w'.heap[a2]? = some (.cells #[.int .i64 a1_0,.int .i64 a1_1,(.slice A1_2 l1_2.length c1_2)] 76 (0,0))) ∧ Aside0 (Below w.heap.size w w'))
    case atStart => exact ⟨(0),Sr_,H',⟨Nat.le_refl _⟩,⟨Bk_ a0⟩,⟨Lb_⟩⟩
    case round =>
     clear H'
     try clear c1
     try clear p2
     try clear c4
     try clear c6
     try clear c10
     try clear c11
     try clear c11b0
     try clear c11b1
     try clear p2
     obtain ⟨x5_2,rfl,HA,HK2,a0,HB⟩:=hrel
     cases gk with
     | zero => exact absurd HA.out (by simp [spec_l11Gate.l0])
     | succ k2 =>
      have H:=HA.out
      clear HA
      simp only [spec_l11Gate.l0] at H
      replace H:=iD_ H
      obtain ⟨c14b0,H⟩ | ⟨c14b0,H⟩:=H
      rotate_left
      ·obtain rfl:=Option.some.inj H
       obtain ⟨_,_,_,_,_,_⟩:=bc3 a0.out
       go_wp2
       go_ret
       exact ⟨Er_,Lb_⟩
      rotate_right
      replace H:=iM_ H
      obtain ⟨c15b0,H⟩:=H
      replace H:=bS_ H
      obtain ⟨t187,a9,H⟩:=H
      replace H:=iE_ H
      obtain ⟨c17b0,c17b1,H⟩ | ⟨c17b0,c17b1,H⟩:=H
      rotate_left
      ·obtain rfl:=Option.some.inj H
       obtain ⟨_,_,_,_,_,_⟩:=bc3 a0.out
       have p186 : 0 ≤ (x5_2 : Int):=dA_
       have q186 : x5_2 < (l1_2.length : Int):=dA_
       obtain ⟨ad186,e186,hL186⟩:=at_L114 HR1_2.out x5_2 p186 q186
       cases e186
       replace hL186:=RowAt.below (B:=0) hL186 HB.out
       replace p186:=eq_true p186
       replace q186:=eq_true q186
       go_wp2_with (first | ((with_reducible refine gate_load_ (t:=114) rfl ?_);refine load_row_ (by rfl) (by rfl) (by rfl) hL186 Tryz.underlying114 rfl size114_ ?_) | ((with_reducible refine gate_callee (f:=76) rfl ?_);refine goesA_ (some 34) rfl rfl Tryz.func76 (by kernel_rfl) rfl #[.slice A0 l0.length c0,.agg #[.int .i64 ((rd_T114 l1_2 x5_2).f0),.int .i64 ((rd_T114 l1_2 x5_2).f1),.int .i64 ((rd_T114 l1_2 x5_2).f2),.int .i64 ((rd_T114 l1_2 x5_2).f3),.int .i64 ((rd_T114 l1_2 x5_2).f4),.int .i64 ((rd_T114 l1_2 x5_2).f5),.int .i64 ((rd_T114 l1_2 x5_2).f6),.int .i64 ((rd_T114 l1_2 x5_2).f7),.int .i64 ((rd_T114 l1_2 x5_2).f8),.int .i64 ((rd_T114 l1_2 x5_2).f9),.int .i64 ((rd_T114 l1_2 x5_2).f10),.int .i64 ((rd_T114 l1_2 x5_2).f11.f0),.int .i64 ((rd_T114 l1_2 x5_2).f11.f1),.int .i64 ((rd_T114 l1_2 x5_2).f11.f2),.int .i64 ((rd_T114 l1_2 x5_2).f11.f3),.int .i64 ((rd_T114 l1_2 x5_2).f12),.int .i64 ((rd_T114 l1_2 x5_2).f13),.int .i64 ((rd_T114 l1_2 x5_2).f14),.int .i64 ((rd_T114 l1_2 x5_2).f15.f0),.int .i64 ((rd_T114 l1_2 x5_2).f15.f1)]] rfl ?_;(with_reducible refine (spec_l11Talk.calls k2 _ _ l0 ((rd_T114 l1_2 x5_2).f0) ((rd_T114 l1_2 x5_2).f1) ((rd_T114 l1_2 x5_2).f2) ((rd_T114 l1_2 x5_2).f3) ((rd_T114 l1_2 x5_2).f4) ((rd_T114 l1_2 x5_2).f5) ((rd_T114 l1_2 x5_2).f6) ((rd_T114 l1_2 x5_2).f7) ((rd_T114 l1_2 x5_2).f8) ((rd_T114 l1_2 x5_2).f9) ((rd_T114 l1_2 x5_2).f10) ((rd_T114 l1_2 x5_2).f11.f0) ((rd_T114 l1_2 x5_2).f11.f1) ((rd_T114 l1_2 x5_2).f11.f2) ((rd_T114 l1_2 x5_2).f11.f3) ((rd_T114 l1_2 x5_2).f12) ((rd_T114 l1_2 x5_2).f13) ((rd_T114 l1_2 x5_2).f14) ((rd_T114 l1_2 x5_2).f15.f0) ((rd_T114 l1_2 x5_2).f15.f1) t187 _ ?side1 ?side2 a9.out).mono ?_);(case side1 => exact Cb_ a5);(case side2 => exact a6.out);rintro e w21 ⟨rfl,hb⟩;refine ⟨_,rfl,?_⟩;replace HB:=Z_ (lP_ Lb_ hb);(try clear hb)))
       go_ret
       exact ⟨Er_,Lb_⟩
      rotate_right
      have H':=Z_ H
      clear H
      obtain ⟨_,_,_,_,_,_⟩:=bc3 a0.out
      have p186 : 0 ≤ (x5_2 : Int):=dA_
      have q186 : x5_2 < (l1_2.length : Int):=dA_
      obtain ⟨ad186,e186,hL186⟩:=at_L114 HR1_2.out x5_2 p186 q186
      cases e186
      replace hL186:=RowAt.below (B:=0) hL186 HB.out
      replace p186:=eq_true p186
      replace q186:=eq_true q186
      go_wp2_with (first | ((with_reducible refine gate_load_ (t:=114) rfl ?_);refine load_row_ (by rfl) (by rfl) (by rfl) hL186 Tryz.underlying114 rfl size114_ ?_) | ((with_reducible refine gate_callee (f:=76) rfl ?_);refine goesA_ (some 34) rfl rfl Tryz.func76 (by kernel_rfl) rfl #[.slice A0 l0.length c0,.agg #[.int .i64 ((rd_T114 l1_2 x5_2).f0),.int .i64 ((rd_T114 l1_2 x5_2).f1),.int .i64 ((rd_T114 l1_2 x5_2).f2),.int .i64 ((rd_T114 l1_2 x5_2).f3),.int .i64 ((rd_T114 l1_2 x5_2).f4),.int .i64 ((rd_T114 l1_2 x5_2).f5),.int .i64 ((rd_T114 l1_2 x5_2).f6),.int .i64 ((rd_T114 l1_2 x5_2).f7),.int .i64 ((rd_T114 l1_2 x5_2).f8),.int .i64 ((rd_T114 l1_2 x5_2).f9),.int .i64 ((rd_T114 l1_2 x5_2).f10),.int .i64 ((rd_T114 l1_2 x5_2).f11.f0),.int .i64 ((rd_T114 l1_2 x5_2).f11.f1),.int .i64 ((rd_T114 l1_2 x5_2).f11.f2),.int .i64 ((rd_T114 l1_2 x5_2).f11.f3),.int .i64 ((rd_T114 l1_2 x5_2).f12),.int .i64 ((rd_T114 l1_2 x5_2).f13),.int .i64 ((rd_T114 l1_2 x5_2).f14),.int .i64 ((rd_T114 l1_2 x5_2).f15.f0),.int .i64 ((rd_T114 l1_2 x5_2).f15.f1)]] rfl ?_;(with_reducible refine (spec_l11Talk.calls k2 _ _ l0 ((rd_T114 l1_2 x5_2).f0) ((rd_T114 l1_2 x5_2).f1) ((rd_T114 l1_2 x5_2).f2) ((rd_T114 l1_2 x5_2).f3) ((rd_T114 l1_2 x5_2).f4) ((rd_T114 l1_2 x5_2).f5) ((rd_T114 l1_2 x5_2).f6) ((rd_T114 l1_2 x5_2).f7) ((rd_T114 l1_2 x5_2).f8) ((rd_T114 l1_2 x5_2).f9) ((rd_T114 l1_2 x5_2).f10) ((rd_T114 l1_2 x5_2).f11.f0) ((rd_T114 l1_2 x5_2).f11.f1) ((rd_T114 l1_2 x5_2).f11.f2) ((rd_T114 l1_2 x5_2).f11.f3) ((rd_T114 l1_2 x5_2).f12) ((rd_T114 l1_2 x5_2).f13) ((rd_T114 l1_2 x5_2).f14) ((rd_T114 l1_2 x5_2).f15.f0) ((rd_T114 l1_2 x5_2).f15.f1) t187 _ ?side1 ?side2 a9.out).mono ?_);(case side1 => exact Cb_ a5);(case side2 => exact a6.out);rintro e w19 ⟨rfl,hb⟩;refine ⟨_,rfl,?_⟩;replace a0:=Z_ (bB_ a0.out hb);replace HB:=Z_ (lP_ HB.out hb);(try clear hb)))
      go_roundg k2
      case measure => have:=HJ2.out;have:=HK2.out;omega
      case rel => exact ⟨(wrap64 (x5_2 + 1)),Sr_,H',⟨by have:=HJ2.out;have:=HK2.out;omega⟩,⟨Bk_ a0⟩,⟨Lb_⟩⟩
   all_goals
    obtain rfl:=Option.some.inj H
    try obtain ⟨_,_,_,_,_,_⟩:=bc3 a0.out
    go_wp2
    go_ret
    exact ⟨Er_,Lb_⟩
def spec_l12Broken.l0 : Nat → List Int → Int → Option (Int)
 | 0,_,_ => none
 | k + 1,x0,x3 => if x3 < (x0.length : Int) then (if 0 ≤ x3 then ((spec_l1In.f (rd x0 x3) 9011 9099).bind fun t189 => (if t189 = true then (if x3 > 0 then (if 0 ≤ (wrap64 (x3 - 1)) then (if (wrap64 (x3 - 1)) < (x0.length : Int) then (if (rd x0 x3) ≤ (rd x0 (wrap64 (x3 - 1))) then (some 1) else (spec_l12Broken.l0 k x0 (wrap64 (x3 + 1)))) else (none)) else (none)) else (spec_l12Broken.l0 k x0 (wrap64 (x3 + 1)))) else (some 3))) else (none)) else (some 0)
def spec_l12Broken.f (k : Nat) (l0 : List Int) : Option (Int):=if (l0.length : Int) > 10 then (some 2) else (spec_l12Broken.l0 k l0 0)
set_option maxHeartbeats 8000000 in
set_option maxRecDepth 100000 in
theorem spec_l12Broken.calls (k : Nat) (A0 : Option Addr) (c0 : Nat) (l0 : List Int) (r : Int) (w : World) (hr0 : Kd.C (Kd.int .i64) w A0 l0.length l0) (hc0 : l0.length ≤ c0) (h : spec_l12Broken.f k l0 = some r) :
  Calls Tryz.prog 44 #[.slice A0 l0.length c0] w fun e w' => e = .returned (.int .i64 r) ∧ Drawn0 w w':=by
 have a0:=Z_ hr0
 have a2:=Z_ hc0
 clear hr0 hc0
 unfold spec_l12Broken.f at h
 have H:=h
 clear h
 replace H:=iC_ H
 obtain ⟨c2,H⟩ | ⟨c2,H⟩:=H
 ·have c2b0 : decide (10 < (l0.length : Int)) = true:=decide_eq_true c2
  have c2b1 : decide (10 < l0.length) = true:=decide_eq_true (by omega)
  clear c2
  obtain rfl:=Option.some.inj H
  go_enter Tryz.func44,Tryz.ntmps44
  go_wp2
  repeat (go_quiet (fail);try go_wp2)
  go_ret
  exact ⟨by first | rfl | (simp;done) | (simp [*];done),by repeat (first | exact Drawn0.refl _ | apply Drawn0.step)⟩
 have c2b0 : decide (10 < (l0.length : Int)) = false:=decide_eq_false c2
 have c2b1 : decide (10 < l0.length) = false:=decide_eq_false (by omega)
 clear c2
 have H':=Z_ H
 clear H
 go_enter Tryz.func44,Tryz.ntmps44
 go_wp2
 repeat (go_quiet (fail);try go_wp2)
 go_loopg [3] k (fun kq v3 w' => ∃ (x3_1 : Int),v3 = .int .i64 x3_1 ∧ Aside0 (spec_l12Broken.l0 kq l0 x3_1 = some r) ∧ Aside0 (kq ≤ k) ∧ Drawn0 w w')
 case atStart => exact ⟨(0),Sr_,H',⟨Nat.le_refl _⟩,by repeat (first | exact Drawn0.refl _ | apply Drawn0.step)⟩
 case round =>
  clear H'
  try clear c2
  try clear c2b0
  try clear c2b1
  try clear p2
  obtain ⟨x3_1,rfl,HA,HK1,⟨m1,rfl⟩⟩:=hrel
  cases gk with
  | zero => exact absurd HA.out (by simp [spec_l12Broken.l0])
  | succ k1 =>
   have H:=HA.out
   clear HA
   simp only [spec_l12Broken.l0] at H
   replace H:=iD_ H
   obtain ⟨c3b0,H⟩ | ⟨c3b0,H⟩:=H
   rotate_left
   ·obtain rfl:=Option.some.inj H
    go_wp2
    repeat (go_quiet (fail);try go_wp2)
    go_ret
    exact ⟨by first | rfl | (simp;done) | (simp [*];done),by repeat (first | exact Drawn0.refl _ | apply Drawn0.step)⟩
   rotate_right
   replace H:=iM_ H
   obtain ⟨c4b0,H⟩:=H
   replace H:=bS_ H
   obtain ⟨t189,A5,H⟩:=H
   replace H:=iB_ H
   obtain ⟨rfl,H⟩ | ⟨rfl,H⟩:=H
   rotate_left
   ·obtain rfl:=Option.some.inj H
    have p188 : 0 ≤ (x3_1 : Int):=dA_
    have q188 : x3_1 < (l0.length : Int):=dA_
    obtain ⟨ad188,e188,hx188_0⟩:=Kd.at_int a0.out x3_1 p188 q188
    cases e188
    replace p188:=eq_true p188
    replace q188:=eq_true q188
    go_wp2_with (first | (go_at_call 47;(with_reducible refine (spec_l1In.calls (rd l0 x3_1) 9011 9099 false _ A5.out).mono ?_);rintro e w' ⟨rfl,⟨nd,rfl⟩⟩;(try first | exact ⟨rfl,_,World.drewN_drewN _ _ _⟩ | exact ⟨rfl,_,Eq.trans (World.drewN_drewN _ _ _) (congrArg (World.drewN _) (Nat.add_assoc _ _ _))⟩)))
    repeat (go_quiet (first | (go_at_call 47;(with_reducible refine (spec_l1In.calls (rd l0 x3_1) 9011 9099 false _ A5.out).mono ?_);rintro e w' ⟨rfl,⟨nd,rfl⟩⟩;(try first | exact ⟨rfl,_,World.drewN_drewN _ _ _⟩ | exact ⟨rfl,_,Eq.trans (World.drewN_drewN _ _ _) (congrArg (World.drewN _) (Nat.add_assoc _ _ _))⟩)));try go_wp2_with (first | (go_at_call 47;(with_reducible refine (spec_l1In.calls (rd l0 x3_1) 9011 9099 false _ A5.out).mono ?_);rintro e w' ⟨rfl,⟨nd,rfl⟩⟩;(try first | exact ⟨rfl,_,World.drewN_drewN _ _ _⟩ | exact ⟨rfl,_,Eq.trans (World.drewN_drewN _ _ _) (congrArg (World.drewN _) (Nat.add_assoc _ _ _))⟩))))
    go_ret
    exact ⟨by first | rfl | (simp;done) | (simp [*];done),by repeat (first | exact Drawn0.refl _ | apply Drawn0.step)⟩
   rotate_right
   replace H:=iD_ H
   obtain ⟨c7b0,H⟩ | ⟨c7b0,H⟩:=H
   rotate_left
   ·replace c7b0 : decide (0 < x3_1) = false:=c7b0
    have H':=Z_ H
    clear H
    have p188 : 0 ≤ (x3_1 : Int):=dA_
    have q188 : x3_1 < (l0.length : Int):=dA_
    obtain ⟨ad188,e188,hx188_0⟩:=Kd.at_int a0.out x3_1 p188 q188
    cases e188
    replace p188:=eq_true p188
    replace q188:=eq_true q188
    go_wp2_with (first | (go_at_call 47;(with_reducible refine (spec_l1In.calls (rd l0 x3_1) 9011 9099 true _ A5.out).mono ?_);rintro e w' ⟨rfl,⟨nd,rfl⟩⟩;(try first | exact ⟨rfl,_,World.drewN_drewN _ _ _⟩ | exact ⟨rfl,_,Eq.trans (World.drewN_drewN _ _ _) (congrArg (World.drewN _) (Nat.add_assoc _ _ _))⟩)))
    repeat (go_quiet (first | (go_at_call 47;(with_reducible refine (spec_l1In.calls (rd l0 x3_1) 9011 9099 true _ A5.out).mono ?_);rintro e w' ⟨rfl,⟨nd,rfl⟩⟩;(try first | exact ⟨rfl,_,World.drewN_drewN _ _ _⟩ | exact ⟨rfl,_,Eq.trans (World.drewN_drewN _ _ _) (congrArg (World.drewN _) (Nat.add_assoc _ _ _))⟩)));try go_wp2_with (first | (go_at_call 47;(with_reducible refine (spec_l1In.calls (rd l0 x3_1) 9011 9099 true _ A5.out).mono ?_);rintro e w' ⟨rfl,⟨nd,rfl⟩⟩;(try first | exact ⟨rfl,_,World.drewN_drewN _ _ _⟩ | exact ⟨rfl,_,Eq.trans (World.drewN_drewN _ _ _) (congrArg (World.drewN _) (Nat.add_assoc _ _ _))⟩))))
    go_roundg k1
    case measure => have:=HK1.out;omega
    case rel => exact ⟨(wrap64 (x3_1 + 1)),Sr_,H',⟨by have:=HK1.out;omega⟩,by repeat (first | exact Drawn0.refl _ | apply Drawn0.step)⟩
   rotate_right
   replace c7b0 : decide (0 < x3_1) = true:=c7b0
   obtain ⟨ji8,hji8⟩ : ∃ j_ : Int,(wrap64 (x3_1 - 1)) = j_:=⟨_,rfl⟩
   replace H : (if 0 ≤ (ji8) then (if (ji8) < (l0.length : Int) then (if (rd l0 x3_1) ≤ (rd l0 (ji8)) then (some 1) else (spec_l12Broken.l0 k1 l0 (wrap64 (x3_1 + 1)))) else (none)) else (none)) = some r:=by first | (rw [hji8] at H;exact H) | (simp only [hji8] at H ⊢;exact H)
   (try rw [hji8] at A5)
   have hji8w : (IntKind.i64.wrap (x3_1 - 1)) = ji8:=(i64_w _).trans hji8
   replace H:=iM_ H
   obtain ⟨c9b0,H⟩:=H
   replace H:=iM_ H
   obtain ⟨c10b0,H⟩:=H
   replace H:=iD_ H
   obtain ⟨c11b0,H⟩ | ⟨c11b0,H⟩:=H
   ·obtain rfl:=Option.some.inj H
    have p188 : 0 ≤ (x3_1 : Int):=dA_
    have q188 : x3_1 < (l0.length : Int):=dA_
    obtain ⟨ad188,e188,hx188_0⟩:=Kd.at_int a0.out x3_1 p188 q188
    cases e188
    replace p188:=eq_true p188
    replace q188:=eq_true q188
    go_wp2_with (first | (go_at_call 47;(with_reducible refine (spec_l1In.calls (rd l0 x3_1) 9011 9099 true _ A5.out).mono ?_);rintro e w' ⟨rfl,⟨nd,rfl⟩⟩;(try first | exact ⟨rfl,_,World.drewN_drewN _ _ _⟩ | exact ⟨rfl,_,Eq.trans (World.drewN_drewN _ _ _) (congrArg (World.drewN _) (Nat.add_assoc _ _ _))⟩);have p190 : 0 ≤ (x3_1 : Int):=dA_;have q190 : x3_1 < (l0.length : Int):=dA_;obtain ⟨ad190,e190,hx190_0⟩:=Kd.at_int a0.out x3_1 p190 q190;obtain rfl : ad188 = ad190:=(by injection e190);replace p190:=eq_true p190;replace q190:=eq_true q190;have p191 : 0 ≤ ((ji8) : Int):=dA_;have q191 : (ji8) < (l0.length : Int):=dA_;obtain ⟨ad191,e191,hx191_0⟩:=Kd.at_int a0.out (ji8) p191 q191;obtain rfl : ad188 = ad191:=(by injection e191);replace p191:=eq_true p191;replace q191:=eq_true q191))
    repeat (go_quiet (first | (go_at_call 47;(with_reducible refine (spec_l1In.calls (rd l0 x3_1) 9011 9099 true _ A5.out).mono ?_);rintro e w' ⟨rfl,⟨nd,rfl⟩⟩;(try first | exact ⟨rfl,_,World.drewN_drewN _ _ _⟩ | exact ⟨rfl,_,Eq.trans (World.drewN_drewN _ _ _) (congrArg (World.drewN _) (Nat.add_assoc _ _ _))⟩);have p190 : 0 ≤ (x3_1 : Int):=dA_;have q190 : x3_1 < (l0.length : Int):=dA_;obtain ⟨ad190,e190,hx190_0⟩:=Kd.at_int a0.out x3_1 p190 q190;obtain rfl : ad188 = ad190:=(by injection e190);replace p190:=eq_true p190;replace q190:=eq_true q190;have p191 : 0 ≤ ((ji8) : Int):=dA_;have q191 : (ji8) < (l0.length : Int):=dA_;obtain ⟨ad191,e191,hx191_0⟩:=Kd.at_int a0.out (ji8) p191 q191;obtain rfl : ad188 = ad191:=(by injection e191);replace p191:=eq_true p191;replace q191:=eq_true q191));try go_wp2_with (first | (go_at_call 47;(with_reducible refine (spec_l1In.calls (rd l0 x3_1) 9011 9099 true _ A5.out).mono ?_);rintro e w' ⟨rfl,⟨nd,rfl⟩⟩;(try first | exact ⟨rfl,_,World.drewN_drewN _ _ _⟩ | exact ⟨rfl,_,Eq.trans (World.drewN_drewN _ _ _) (congrArg (World.drewN _) (Nat.add_assoc _ _ _))⟩);have p190 : 0 ≤ (x3_1 : Int):=dA_;have q190 : x3_1 < (l0.length : Int):=dA_;obtain ⟨ad190,e190,hx190_0⟩:=Kd.at_int a0.out x3_1 p190 q190;obtain rfl : ad188 = ad190:=(by injection e190);replace p190:=eq_true p190;replace q190:=eq_true q190;have p191 : 0 ≤ ((ji8) : Int):=dA_;have q191 : (ji8) < (l0.length : Int):=dA_;obtain ⟨ad191,e191,hx191_0⟩:=Kd.at_int a0.out (ji8) p191 q191;obtain rfl : ad188 = ad191:=(by injection e191);replace p191:=eq_true p191;replace q191:=eq_true q191)))
    go_ret
    exact ⟨by first | rfl | (simp;done) | (simp only [← hji8] <;> (first | rfl | simp)) | (simp [*];done),by repeat (first | exact Drawn0.refl _ | apply Drawn0.step)⟩
   have H':=Z_ H
   clear H
   have p188 : 0 ≤ (x3_1 : Int):=dA_
   have q188 : x3_1 < (l0.length : Int):=dA_
   obtain ⟨ad188,e188,hx188_0⟩:=Kd.at_int a0.out x3_1 p188 q188
   cases e188
   replace p188:=eq_true p188
   replace q188:=eq_true q188
   go_wp2_with (first | (go_at_call 47;(with_reducible refine (spec_l1In.calls (rd l0 x3_1) 9011 9099 true _ A5.out).mono ?_);rintro e w' ⟨rfl,⟨nd,rfl⟩⟩;(try first | exact ⟨rfl,_,World.drewN_drewN _ _ _⟩ | exact ⟨rfl,_,Eq.trans (World.drewN_drewN _ _ _) (congrArg (World.drewN _) (Nat.add_assoc _ _ _))⟩);have p190 : 0 ≤ (x3_1 : Int):=dA_;have q190 : x3_1 < (l0.length : Int):=dA_;obtain ⟨ad190,e190,hx190_0⟩:=Kd.at_int a0.out x3_1 p190 q190;obtain rfl : ad188 = ad190:=(by injection e190);replace p190:=eq_true p190;replace q190:=eq_true q190;have p191 : 0 ≤ ((ji8) : Int):=dA_;have q191 : (ji8) < (l0.length : Int):=dA_;obtain ⟨ad191,e191,hx191_0⟩:=Kd.at_int a0.out (ji8) p191 q191;obtain rfl : ad188 = ad191:=(by injection e191);replace p191:=eq_true p191;replace q191:=eq_true q191))
   repeat (go_quiet (first | (go_at_call 47;(with_reducible refine (spec_l1In.calls (rd l0 x3_1) 9011 9099 true _ A5.out).mono ?_);rintro e w' ⟨rfl,⟨nd,rfl⟩⟩;(try first | exact ⟨rfl,_,World.drewN_drewN _ _ _⟩ | exact ⟨rfl,_,Eq.trans (World.drewN_drewN _ _ _) (congrArg (World.drewN _) (Nat.add_assoc _ _ _))⟩);have p190 : 0 ≤ (x3_1 : Int):=dA_;have q190 : x3_1 < (l0.length : Int):=dA_;obtain ⟨ad190,e190,hx190_0⟩:=Kd.at_int a0.out x3_1 p190 q190;obtain rfl : ad188 = ad190:=(by injection e190);replace p190:=eq_true p190;replace q190:=eq_true q190;have p191 : 0 ≤ ((ji8) : Int):=dA_;have q191 : (ji8) < (l0.length : Int):=dA_;obtain ⟨ad191,e191,hx191_0⟩:=Kd.at_int a0.out (ji8) p191 q191;obtain rfl : ad188 = ad191:=(by injection e191);replace p191:=eq_true p191;replace q191:=eq_true q191));try go_wp2_with (first | (go_at_call 47;(with_reducible refine (spec_l1In.calls (rd l0 x3_1) 9011 9099 true _ A5.out).mono ?_);rintro e w' ⟨rfl,⟨nd,rfl⟩⟩;(try first | exact ⟨rfl,_,World.drewN_drewN _ _ _⟩ | exact ⟨rfl,_,Eq.trans (World.drewN_drewN _ _ _) (congrArg (World.drewN _) (Nat.add_assoc _ _ _))⟩);have p190 : 0 ≤ (x3_1 : Int):=dA_;have q190 : x3_1 < (l0.length : Int):=dA_;obtain ⟨ad190,e190,hx190_0⟩:=Kd.at_int a0.out x3_1 p190 q190;obtain rfl : ad188 = ad190:=(by injection e190);replace p190:=eq_true p190;replace q190:=eq_true q190;have p191 : 0 ≤ ((ji8) : Int):=dA_;have q191 : (ji8) < (l0.length : Int):=dA_;obtain ⟨ad191,e191,hx191_0⟩:=Kd.at_int a0.out (ji8) p191 q191;obtain rfl : ad188 = ad191:=(by injection e191);replace p191:=eq_true p191;replace q191:=eq_true q191)))
   go_roundg k1
   case measure => have:=HK1.out;omega
   case rel => exact ⟨(wrap64 (x3_1 + 1)),Sr_,H',⟨by have:=HK1.out;omega⟩,by repeat (first | exact Drawn0.refl _ | apply Drawn0.step)⟩
def spec_KnownFault.l0 : Nat → List (S83) → List Int → Int → Option (Int)
 | 0,_,_,_ => none
 | k + 1,x0,x1,x6 => if x6 < (x1.length : Int) then (if 0 ≤ x6 then ((spec_l5At.f x0 (rd x1 x6)).bind fun t194 => (if t194 = true then (if x6 > 0 then (if 0 ≤ (wrap64 (x6 - 1)) then (if (wrap64 (x6 - 1)) < (x1.length : Int) then (if (rd x1 x6) ≤ (rd x1 (wrap64 (x6 - 1))) then (some 1) else (spec_KnownFault.l0 k x0 x1 (wrap64 (x6 + 1)))) else (none)) else (none)) else (spec_KnownFault.l0 k x0 x1 (wrap64 (x6 + 1)))) else (some 3))) else (none)) else (some 0)
def spec_KnownFault.f (k : Nat) (l0 : List (S83)) (l1 : List Int) : Option (Int):=(spec_TermsFault.f k l0).bind fun t192 => (if t192 = 0 then (if (l1.length : Int) > 400 then (some 2) else (spec_KnownFault.l0 k l0 l1 0)) else (some t192))
set_option maxHeartbeats 8000000 in
set_option maxRecDepth 100000 in
theorem spec_KnownFault.calls (k : Nat) (A0 : Option Addr) (c0 : Nat) (l0 : List (S83)) (A1 : Option Addr) (c1 : Nat) (l1 : List Int) (r : Int) (w : World) (hr0 : Kd.C k83 w A0 l0.length l0) (hc0 : l0.length ≤ c0) (hr1 : Kd.C (Kd.int .i64) w A1 l1.length l1) (hc1 : l1.length ≤ c1) (h : spec_KnownFault.f k l0 l1 = some r) :
  Calls Tryz.prog 45 #[.slice A0 l0.length c0,.slice A1 l1.length c1] w fun e w' => e = .returned (.int .i64 r) ∧ Below w.heap.size w w':=by
 have a0:=Z_ hr0
 have a1:=Z_ hc0
 clear hr0 hc0
 have a2:=Z_ hr1
 have a6:=Z_ hc1
 clear hr1 hc1
 have HB:=Z_ (Below.refl w.heap.size w)
 unfold spec_KnownFault.f at h
 have H:=h
 clear h
 replace H:=bS_ H
 obtain ⟨t192,A3,H⟩:=H
 replace H:=iC_ H
 obtain ⟨c4,H⟩ | ⟨c4,H⟩:=H
 rotate_left
 ·have c4b0 : (t192 == 0) = false:=beq_eq_false_iff_ne.mpr c4
  have c4b1 : (t192 != 0) = true:=bne_iff_ne.mpr c4
  obtain rfl:=Option.some.inj H
  go_enter Tryz.func45,Tryz.ntmps45
  go_wp2_with (first | (go_at_call 42;(with_reducible refine (spec_TermsFault.calls k _ _ l0 t192 _ ?side1 ?side2 A3.out).mono ?_);(case side1 => repeat (first | exact a0.out | (with_reducible refine Kd.C_alloc ?_ _) | (with_reducible refine Kd.C_drewN ?_ _) | (with_reducible refine Kd.C_drew ?_)));(case side2 => exact a1.out);rintro e w17 ⟨rfl,hb⟩;replace HB:=Z_ (lP_ Lb_ hb);(try clear hb)))
  repeat (go_quiet (first | (go_at_call 42;(with_reducible refine (spec_TermsFault.calls k _ _ l0 t192 _ ?side1 ?side2 A3.out).mono ?_);(case side1 => repeat (first | exact a0.out | (with_reducible refine Kd.C_alloc ?_ _) | (with_reducible refine Kd.C_drewN ?_ _) | (with_reducible refine Kd.C_drew ?_)));(case side2 => exact a1.out);rintro e w17 ⟨rfl,hb⟩;have n0_:=Z_ (lP_ Lb_ hb);clear HB;have HB:=n0_;clear n0_;(try clear hb);(try clear hb2);(try clear hk);(try clear hi)));try go_wp2_with (first | (go_at_call 42;(with_reducible refine (spec_TermsFault.calls k _ _ l0 t192 _ ?side1 ?side2 A3.out).mono ?_);(case side1 => repeat (first | exact a0.out | (with_reducible refine Kd.C_alloc ?_ _) | (with_reducible refine Kd.C_drewN ?_ _) | (with_reducible refine Kd.C_drew ?_)));(case side2 => exact a1.out);rintro e w17 ⟨rfl,hb⟩;have n0_:=Z_ (lP_ Lb_ hb);clear HB;have HB:=n0_;clear n0_;(try clear hb);(try clear hb2);(try clear hk);(try clear hi))))
  go_ret
  exact ⟨Er_,Lb_⟩
 rotate_right
 have c4b0 : (t192 == 0) = true:=beq_iff_eq.mpr c4
 have c4b1 : (t192 != 0) = false:=bne_eq_false_iff_eq.mpr c4
 clear c4
 replace H:=iC_ H
 obtain ⟨c5,H⟩ | ⟨c5,H⟩:=H
 ·have c5b0 : decide (400 < (l1.length : Int)) = true:=decide_eq_true c5
  have c5b1 : decide (400 < l1.length) = true:=decide_eq_true (by omega)
  clear c5
  obtain rfl:=Option.some.inj H
  go_enter Tryz.func45,Tryz.ntmps45
  go_wp2_with (first | (go_at_call 42;(with_reducible refine (spec_TermsFault.calls k _ _ l0 t192 _ ?side1 ?side2 A3.out).mono ?_);(case side1 => repeat (first | exact a0.out | (with_reducible refine Kd.C_alloc ?_ _) | (with_reducible refine Kd.C_drewN ?_ _) | (with_reducible refine Kd.C_drew ?_)));(case side2 => exact a1.out);rintro e w6 ⟨rfl,hb⟩;replace HB:=Z_ (lP_ HB.out hb);(try clear hb)))
  repeat (go_quiet (first | (go_at_call 42;(with_reducible refine (spec_TermsFault.calls k _ _ l0 t192 _ ?side1 ?side2 A3.out).mono ?_);(case side1 => repeat (first | exact a0.out | (with_reducible refine Kd.C_alloc ?_ _) | (with_reducible refine Kd.C_drewN ?_ _) | (with_reducible refine Kd.C_drew ?_)));(case side2 => exact a1.out);rintro e w6 ⟨rfl,hb⟩;have n0_:=Z_ (lP_ Lb_ hb);clear HB;have HB:=n0_;clear n0_;(try clear hb);(try clear hb2);(try clear hk);(try clear hi)));try go_wp2_with (first | (go_at_call 42;(with_reducible refine (spec_TermsFault.calls k _ _ l0 t192 _ ?side1 ?side2 A3.out).mono ?_);(case side1 => repeat (first | exact a0.out | (with_reducible refine Kd.C_alloc ?_ _) | (with_reducible refine Kd.C_drewN ?_ _) | (with_reducible refine Kd.C_drew ?_)));(case side2 => exact a1.out);rintro e w6 ⟨rfl,hb⟩;have n0_:=Z_ (lP_ Lb_ hb);clear HB;have HB:=n0_;clear n0_;(try clear hb);(try clear hb2);(try clear hk);(try clear hi))))
  go_ret
  exact ⟨Er_,Lb_⟩
 have c5b0 : decide (400 < (l1.length : Int)) = false:=decide_eq_false c5
 have c5b1 : decide (400 < l1.length) = false:=decide_eq_false (by omega)
 clear c5
 have H':=Z_ H
 clear H
 go_enter Tryz.func45,Tryz.ntmps45
 go_wp2_with (first | (go_at_call 42;(with_reducible refine (spec_TermsFault.calls k _ _ l0 t192 _ ?side1 ?side2 A3.out).mono ?_);(case side1 => repeat (first | exact a0.out | (with_reducible refine Kd.C_alloc ?_ _) | (with_reducible refine Kd.C_drewN ?_ _) | (with_reducible refine Kd.C_drew ?_)));(case side2 => exact a1.out);rintro e w7 ⟨rfl,hb⟩;replace HB:=Z_ (lP_ Lb_ hb);(try clear hb)))
 repeat (go_quiet (first | (go_at_call 42;(with_reducible refine (spec_TermsFault.calls k _ _ l0 t192 _ ?side1 ?side2 A3.out).mono ?_);(case side1 => repeat (first | exact a0.out | (with_reducible refine Kd.C_alloc ?_ _) | (with_reducible refine Kd.C_drewN ?_ _) | (with_reducible refine Kd.C_drew ?_)));(case side2 => exact a1.out);rintro e w7 ⟨rfl,hb⟩;have n0_:=Z_ (lP_ Lb_ hb);clear HB;have HB:=n0_;clear n0_;(try clear hb);(try clear hb2);(try clear hk);(try clear hi)));try go_wp2_with (first | (go_at_call 42;(with_reducible refine (spec_TermsFault.calls k _ _ l0 t192 _ ?side1 ?side2 A3.out).mono ?_);(case side1 => repeat (first | exact a0.out | (with_reducible refine Kd.C_alloc ?_ _) | (with_reducible refine Kd.C_drewN ?_ _) | (with_reducible refine Kd.C_drew ?_)));(case side2 => exact a1.out);rintro e w7 ⟨rfl,hb⟩;have n0_:=Z_ (lP_ Lb_ hb);clear HB;have HB:=n0_;clear n0_;(try clear hb);(try clear hb2);(try clear hk);(try clear hi))))
 go_loopg [6] k (fun kq v6 w' => ∃ (x6_1 : Int),v6 = .int .i64 x6_1 ∧ Aside0 (spec_KnownFault.l0 kq l0 l1 x6_1 = some r) ∧ Aside0 (kq ≤ k) ∧ Aside0 (Below w.heap.size w w'))
 case atStart => exact ⟨(0),Sr_,H',⟨Nat.le_refl _⟩,⟨Lb_⟩⟩
 case round =>
  clear H'
  try clear c1
  try clear p2
  try clear c4
  try clear c4b0
  try clear c4b1
  try clear c5
  try clear c5b0
  try clear c5b1
  obtain ⟨x6_1,rfl,HA,HK1,HB⟩:=hrel
  cases gk with
  | zero => exact absurd HA.out (by simp [spec_KnownFault.l0])
  | succ k1 =>
   have H:=HA.out
   clear HA
   simp only [spec_KnownFault.l0] at H
   replace H:=iD_ H
   obtain ⟨c8b0,H⟩ | ⟨c8b0,H⟩:=H
   rotate_left
   ·obtain rfl:=Option.some.inj H
    go_wp2
    repeat (go_quiet (fail);try go_wp2)
    go_ret
    exact ⟨Er_,Lb_⟩
   rotate_right
   replace H:=iM_ H
   obtain ⟨c9b0,H⟩:=H
   replace H:=bS_ H
   obtain ⟨t194,a3,H⟩:=H
   replace H:=iB_ H
   obtain ⟨rfl,H⟩ | ⟨rfl,H⟩:=H
   rotate_left
   ·obtain rfl:=Option.some.inj H
    have p193 : 0 ≤ (x6_1 : Int):=dA_
    have q193 : x6_1 < (l1.length : Int):=dA_
    obtain ⟨ad193,e193,hx193_0⟩:=Kd.at_int a2.out x6_1 p193 q193
    cases e193
    replace hx193_0:=cB_ HB hx193_0
    replace p193:=eq_true p193
    replace q193:=eq_true q193
    go_wp2_with (first | (go_at_call 21;(with_reducible refine (spec_l5At.calls _ _ l0 (rd l1 x6_1) false _ ?side1 ?side2 a3.out).mono ?_);(case side1 => exact Cb_ a0);(case side2 => exact a1.out);rintro e w' ⟨rfl,⟨nd,rfl⟩⟩;(try first | exact ⟨rfl,_,World.drewN_drewN _ _ _⟩ | exact ⟨rfl,_,Eq.trans (World.drewN_drewN _ _ _) (congrArg (World.drewN _) (Nat.add_assoc _ _ _))⟩)))
    repeat (go_quiet (first | (go_at_call 21;(with_reducible refine (spec_l5At.calls _ _ l0 (rd l1 x6_1) false _ ?side1 ?side2 a3.out).mono ?_);(case side1 => exact Cb_ a0);(case side2 => exact a1.out);rintro e w' ⟨rfl,⟨nd,rfl⟩⟩;(try first | exact ⟨rfl,_,World.drewN_drewN _ _ _⟩ | exact ⟨rfl,_,Eq.trans (World.drewN_drewN _ _ _) (congrArg (World.drewN _) (Nat.add_assoc _ _ _))⟩)));try go_wp2_with (first | (go_at_call 21;(with_reducible refine (spec_l5At.calls _ _ l0 (rd l1 x6_1) false _ ?side1 ?side2 a3.out).mono ?_);(case side1 => exact Cb_ a0);(case side2 => exact a1.out);rintro e w' ⟨rfl,⟨nd,rfl⟩⟩;(try first | exact ⟨rfl,_,World.drewN_drewN _ _ _⟩ | exact ⟨rfl,_,Eq.trans (World.drewN_drewN _ _ _) (congrArg (World.drewN _) (Nat.add_assoc _ _ _))⟩))))
    go_ret
    exact ⟨Er_,Lb_⟩
   rotate_right
   replace H:=iD_ H
   obtain ⟨c12b0,H⟩ | ⟨c12b0,H⟩:=H
   rotate_left
   ·replace c12b0 : decide (0 < x6_1) = false:=c12b0
    have H':=Z_ H
    clear H
    have p193 : 0 ≤ (x6_1 : Int):=dA_
    have q193 : x6_1 < (l1.length : Int):=dA_
    obtain ⟨ad193,e193,hx193_0⟩:=Kd.at_int a2.out x6_1 p193 q193
    cases e193
    replace hx193_0:=cB_ HB hx193_0
    replace p193:=eq_true p193
    replace q193:=eq_true q193
    go_wp2_with (first | (go_at_call 21;(with_reducible refine (spec_l5At.calls _ _ l0 (rd l1 x6_1) true _ ?side1 ?side2 a3.out).mono ?_);(case side1 => exact Cb_ a0);(case side2 => exact a1.out);rintro e w' ⟨rfl,⟨nd,rfl⟩⟩;(try first | exact ⟨rfl,_,World.drewN_drewN _ _ _⟩ | exact ⟨rfl,_,Eq.trans (World.drewN_drewN _ _ _) (congrArg (World.drewN _) (Nat.add_assoc _ _ _))⟩)))
    repeat (go_quiet (first | (go_at_call 21;(with_reducible refine (spec_l5At.calls _ _ l0 (rd l1 x6_1) true _ ?side1 ?side2 a3.out).mono ?_);(case side1 => exact Cb_ a0);(case side2 => exact a1.out);rintro e w' ⟨rfl,⟨nd,rfl⟩⟩;(try first | exact ⟨rfl,_,World.drewN_drewN _ _ _⟩ | exact ⟨rfl,_,Eq.trans (World.drewN_drewN _ _ _) (congrArg (World.drewN _) (Nat.add_assoc _ _ _))⟩)));try go_wp2_with (first | (go_at_call 21;(with_reducible refine (spec_l5At.calls _ _ l0 (rd l1 x6_1) true _ ?side1 ?side2 a3.out).mono ?_);(case side1 => exact Cb_ a0);(case side2 => exact a1.out);rintro e w' ⟨rfl,⟨nd,rfl⟩⟩;(try first | exact ⟨rfl,_,World.drewN_drewN _ _ _⟩ | exact ⟨rfl,_,Eq.trans (World.drewN_drewN _ _ _) (congrArg (World.drewN _) (Nat.add_assoc _ _ _))⟩))))
    go_roundg k1
    case measure => have:=HK1.out;omega
    case rel => exact ⟨(wrap64 (x6_1 + 1)),Sr_,H',⟨by have:=HK1.out;omega⟩,⟨Lb_⟩⟩
   rotate_right
   replace c12b0 : decide (0 < x6_1) = true:=c12b0
   obtain ⟨ji13,hji13⟩ : ∃ j_ : Int,(wrap64 (x6_1 - 1)) = j_:=⟨_,rfl⟩
   replace H : (if 0 ≤ (ji13) then (if (ji13) < (l1.length : Int) then (if (rd l1 x6_1) ≤ (rd l1 (ji13)) then (some 1) else (spec_KnownFault.l0 k1 l0 l1 (wrap64 (x6_1 + 1)))) else (none)) else (none)) = some r:=by first | (rw [hji13] at H;exact H) | (simp only [hji13] at H ⊢;exact H)
   (try rw [hji13] at a3)
   have hji13w : (IntKind.i64.wrap (x6_1 - 1)) = ji13:=(i64_w _).trans hji13
   replace H:=iM_ H
   obtain ⟨c14b0,H⟩:=H
   replace H:=iM_ H
   obtain ⟨c15b0,H⟩:=H
   replace H:=iD_ H
   obtain ⟨c16b0,H⟩ | ⟨c16b0,H⟩:=H
   ·obtain rfl:=Option.some.inj H
    have p193 : 0 ≤ (x6_1 : Int):=dA_
    have q193 : x6_1 < (l1.length : Int):=dA_
    obtain ⟨ad193,e193,hx193_0⟩:=Kd.at_int a2.out x6_1 p193 q193
    cases e193
    replace hx193_0:=cB_ HB hx193_0
    replace p193:=eq_true p193
    replace q193:=eq_true q193
    go_wp2_with (first | (go_at_call 21;(with_reducible refine (spec_l5At.calls _ _ l0 (rd l1 x6_1) true _ ?side1 ?side2 a3.out).mono ?_);(case side1 => exact Cb_ a0);(case side2 => exact a1.out);rintro e w' ⟨rfl,⟨nd,rfl⟩⟩;(try first | exact ⟨rfl,_,World.drewN_drewN _ _ _⟩ | exact ⟨rfl,_,Eq.trans (World.drewN_drewN _ _ _) (congrArg (World.drewN _) (Nat.add_assoc _ _ _))⟩);have p195 : 0 ≤ (x6_1 : Int):=dA_;have q195 : x6_1 < (l1.length : Int):=dA_;obtain ⟨ad195,e195,hx195_0⟩:=Kd.at_int a2.out x6_1 p195 q195;obtain rfl : ad193 = ad195:=(by injection e195);replace hx195_0:=cB_ HB hx195_0;replace p195:=eq_true p195;replace q195:=eq_true q195;have p196 : 0 ≤ ((ji13) : Int):=dA_;have q196 : (ji13) < (l1.length : Int):=dA_;obtain ⟨ad196,e196,hx196_0⟩:=Kd.at_int a2.out (ji13) p196 q196;obtain rfl : ad193 = ad196:=(by injection e196);replace hx196_0:=cB_ HB hx196_0;replace p196:=eq_true p196;replace q196:=eq_true q196))
    repeat (go_quiet (first | (go_at_call 21;(with_reducible refine (spec_l5At.calls _ _ l0 (rd l1 x6_1) true _ ?side1 ?side2 a3.out).mono ?_);(case side1 => exact Cb_ a0);(case side2 => exact a1.out);rintro e w' ⟨rfl,⟨nd,rfl⟩⟩;(try first | exact ⟨rfl,_,World.drewN_drewN _ _ _⟩ | exact ⟨rfl,_,Eq.trans (World.drewN_drewN _ _ _) (congrArg (World.drewN _) (Nat.add_assoc _ _ _))⟩);have p195 : 0 ≤ (x6_1 : Int):=dA_;have q195 : x6_1 < (l1.length : Int):=dA_;obtain ⟨ad195,e195,hx195_0⟩:=Kd.at_int a2.out x6_1 p195 q195;obtain rfl : ad193 = ad195:=(by injection e195);replace hx195_0:=cB_ HB hx195_0;replace p195:=eq_true p195;replace q195:=eq_true q195;have p196 : 0 ≤ ((ji13) : Int):=dA_;have q196 : (ji13) < (l1.length : Int):=dA_;obtain ⟨ad196,e196,hx196_0⟩:=Kd.at_int a2.out (ji13) p196 q196;obtain rfl : ad193 = ad196:=(by injection e196);replace hx196_0:=cB_ HB hx196_0;replace p196:=eq_true p196;replace q196:=eq_true q196));try go_wp2_with (first | (go_at_call 21;(with_reducible refine (spec_l5At.calls _ _ l0 (rd l1 x6_1) true _ ?side1 ?side2 a3.out).mono ?_);(case side1 => exact Cb_ a0);(case side2 => exact a1.out);rintro e w' ⟨rfl,⟨nd,rfl⟩⟩;(try first | exact ⟨rfl,_,World.drewN_drewN _ _ _⟩ | exact ⟨rfl,_,Eq.trans (World.drewN_drewN _ _ _) (congrArg (World.drewN _) (Nat.add_assoc _ _ _))⟩);have p195 : 0 ≤ (x6_1 : Int):=dA_;have q195 : x6_1 < (l1.length : Int):=dA_;obtain ⟨ad195,e195,hx195_0⟩:=Kd.at_int a2.out x6_1 p195 q195;obtain rfl : ad193 = ad195:=(by injection e195);replace hx195_0:=cB_ HB hx195_0;replace p195:=eq_true p195;replace q195:=eq_true q195;have p196 : 0 ≤ ((ji13) : Int):=dA_;have q196 : (ji13) < (l1.length : Int):=dA_;obtain ⟨ad196,e196,hx196_0⟩:=Kd.at_int a2.out (ji13) p196 q196;obtain rfl : ad193 = ad196:=(by injection e196);replace hx196_0:=cB_ HB hx196_0;replace p196:=eq_true p196;replace q196:=eq_true q196)))
    go_ret
    exact ⟨by first | rfl | (simp [errW_none,errW_some] <;> rfl) | (simp only [← hji13];first | rfl | (simp [errW_none,errW_some] <;> rfl)) | (simp [*,errW_none,errW_some] <;> rfl),Lb_⟩
   have H':=Z_ H
   clear H
   have p193 : 0 ≤ (x6_1 : Int):=dA_
   have q193 : x6_1 < (l1.length : Int):=dA_
   obtain ⟨ad193,e193,hx193_0⟩:=Kd.at_int a2.out x6_1 p193 q193
   cases e193
   replace hx193_0:=cB_ HB hx193_0
   replace p193:=eq_true p193
   replace q193:=eq_true q193
   go_wp2_with (first | (go_at_call 21;(with_reducible refine (spec_l5At.calls _ _ l0 (rd l1 x6_1) true _ ?side1 ?side2 a3.out).mono ?_);(case side1 => exact Cb_ a0);(case side2 => exact a1.out);rintro e w' ⟨rfl,⟨nd,rfl⟩⟩;(try first | exact ⟨rfl,_,World.drewN_drewN _ _ _⟩ | exact ⟨rfl,_,Eq.trans (World.drewN_drewN _ _ _) (congrArg (World.drewN _) (Nat.add_assoc _ _ _))⟩);have p195 : 0 ≤ (x6_1 : Int):=dA_;have q195 : x6_1 < (l1.length : Int):=dA_;obtain ⟨ad195,e195,hx195_0⟩:=Kd.at_int a2.out x6_1 p195 q195;obtain rfl : ad193 = ad195:=(by injection e195);replace hx195_0:=cB_ HB hx195_0;replace p195:=eq_true p195;replace q195:=eq_true q195;have p196 : 0 ≤ ((ji13) : Int):=dA_;have q196 : (ji13) < (l1.length : Int):=dA_;obtain ⟨ad196,e196,hx196_0⟩:=Kd.at_int a2.out (ji13) p196 q196;obtain rfl : ad193 = ad196:=(by injection e196);replace hx196_0:=cB_ HB hx196_0;replace p196:=eq_true p196;replace q196:=eq_true q196))
   repeat (go_quiet (first | (go_at_call 21;(with_reducible refine (spec_l5At.calls _ _ l0 (rd l1 x6_1) true _ ?side1 ?side2 a3.out).mono ?_);(case side1 => exact Cb_ a0);(case side2 => exact a1.out);rintro e w' ⟨rfl,⟨nd,rfl⟩⟩;(try first | exact ⟨rfl,_,World.drewN_drewN _ _ _⟩ | exact ⟨rfl,_,Eq.trans (World.drewN_drewN _ _ _) (congrArg (World.drewN _) (Nat.add_assoc _ _ _))⟩);have p195 : 0 ≤ (x6_1 : Int):=dA_;have q195 : x6_1 < (l1.length : Int):=dA_;obtain ⟨ad195,e195,hx195_0⟩:=Kd.at_int a2.out x6_1 p195 q195;obtain rfl : ad193 = ad195:=(by injection e195);replace hx195_0:=cB_ HB hx195_0;replace p195:=eq_true p195;replace q195:=eq_true q195;have p196 : 0 ≤ ((ji13) : Int):=dA_;have q196 : (ji13) < (l1.length : Int):=dA_;obtain ⟨ad196,e196,hx196_0⟩:=Kd.at_int a2.out (ji13) p196 q196;obtain rfl : ad193 = ad196:=(by injection e196);replace hx196_0:=cB_ HB hx196_0;replace p196:=eq_true p196;replace q196:=eq_true q196));try go_wp2_with (first | (go_at_call 21;(with_reducible refine (spec_l5At.calls _ _ l0 (rd l1 x6_1) true _ ?side1 ?side2 a3.out).mono ?_);(case side1 => exact Cb_ a0);(case side2 => exact a1.out);rintro e w' ⟨rfl,⟨nd,rfl⟩⟩;(try first | exact ⟨rfl,_,World.drewN_drewN _ _ _⟩ | exact ⟨rfl,_,Eq.trans (World.drewN_drewN _ _ _) (congrArg (World.drewN _) (Nat.add_assoc _ _ _))⟩);have p195 : 0 ≤ (x6_1 : Int):=dA_;have q195 : x6_1 < (l1.length : Int):=dA_;obtain ⟨ad195,e195,hx195_0⟩:=Kd.at_int a2.out x6_1 p195 q195;obtain rfl : ad193 = ad195:=(by injection e195);replace hx195_0:=cB_ HB hx195_0;replace p195:=eq_true p195;replace q195:=eq_true q195;have p196 : 0 ≤ ((ji13) : Int):=dA_;have q196 : (ji13) < (l1.length : Int):=dA_;obtain ⟨ad196,e196,hx196_0⟩:=Kd.at_int a2.out (ji13) p196 q196;obtain rfl : ad193 = ad196:=(by injection e196);replace hx196_0:=cB_ HB hx196_0;replace p196:=eq_true p196;replace q196:=eq_true q196)))
   go_roundg k1
   case measure => have:=HK1.out;omega
   case rel => exact ⟨(wrap64 (x6_1 + 1)),Sr_,H',⟨by have:=HK1.out;omega⟩,⟨Lb_⟩⟩
def gvBad (lt : List S83) (lg : List S76) (x : S88) : Bool:=!(decide (1 ≤ x.f0 ∧ x.f0 ≤ (lg.length : Int)) && decide (0 ≤ x.f1 ∧ x.f1 ≤ ((rd_T76 lg (x.f0 - 1)).f2.length : Int) - 1) && decide (1 ≤ x.f2 ∧ x.f2 ≤ 9999) && decide (0 ≤ x.f3 ∧ x.f3 ≤ (lt.length : Int) - 1))
def nfGates (F : Int → Int → List S114 → Option Int) : Int → List S76 → Option Int
  | _,[] => some 0
  | i,g :: gs => (F g.f0 g.f1 g.f2).bind fun c => if c = 0 then (if g.f0 = i + 1 then nfGates F (i + 1) gs else some 1) else some c
theorem nf_get (lg : List S76) (kk : Nat) (h : kk < lg.length) : lg.drop kk = rd_T76 lg (kk : Int) :: lg.drop (kk + 1):=by
  rw [List.drop_eq_getElem_cons h]
  simp [rd_T76,List.getD,List.getElem?_eq_getElem h]
theorem w64g {n : Int} (h0 : -9223372036854775808 ≤ n) (h1 : n ≤ 9223372036854775807) : wrap64 n = n:=by unfold wrap64;omega
theorem spec_l1In_eq' (a b c : Int) : spec_l1In.f a b c = some (decide (b ≤ a ∧ a ≤ c)):=by
  unfold spec_l1In.f;split
  · congr 1;simp;omega
  · congr 1;simp;omega
theorem spec_l5At_eq' (l : List S83) (a : Int) (hl : l.length ≤ 9223372036854775807) : spec_l5At.f l a = some (decide (0 ≤ a ∧ a ≤ (l.length : Int) - 1)):=by
  unfold spec_l5At.f
  rw [show wrap64 ((l.length : Int) - 1) = (l.length : Int) - 1 from w64g (by omega) (by omega),spec_l1In_eq']
  rfl
set_option maxHeartbeats 8000000 in
set_option maxRecDepth 100000 in
theorem spec_l12Given.calls (p : Nat) (A0 A1 A2 A3 A4 A5 : Option Addr) (c0 c1 c2 c3 c4 c5 n2 n3 n4 n5 : Nat) (lt : List S83) (lg : List S76) (A : Option Addr) (c : Nat) (l : List S88) (w : World)
    (hI : w.heap[p]? = some (.cells #[.slice A0 lt.length c0,.slice A1 lg.length c1,.slice A2 n2 c2,.slice A3 n3 c3,.slice A4 n4 c4,.slice A5 n5 c5] 34 (0,0)))
    (hr0 : Kd.C k83 w A0 lt.length lt) (hc0 : lt.length ≤ c0) (hr1 : Kd.C k76 w A1 lg.length lg) (hr : Kd.C k88 w A l.length l) :
    Calls Tryz.prog 46 #[.pointer (some ⟨p,0,none⟩),.slice A l.length c] w fun e w' => e = .returned (.int .i64 (if l.any (gvBad lt lg) = true then 3 else 0)) ∧ Below w.heap.size w w':=by
 have hu1:=Tryz.underlying34
 have hu2:=Tryz.underlying88
 have hu3:=Tryz.underlying76
 have BI:=Z_ hI
 have a0:=Z_ hr0
 have a1:=Z_ hc0
 have a2:=Z_ hr1
 have HR:=Z_ hr
 have HN0:=Z_ hr0.2.1
 have HN1:=Z_ hr1.2.1
 clear hI hr0 hc0 hr1 hr
 obtain ⟨r,hrs⟩ : ∃ r : Int,r = if l.any (gvBad lt lg) = true then 3 else 0:=⟨_,rfl⟩
 rw [← hrs]
 have HRS:=Z_ hrs
 clear hrs
 go_enter Tryz.func46,Tryz.ntmps46
 go_wp2
 go_loopg [5] l.length (fun gg v5 wr => ∃ kk : Nat,kk ≤ l.length ∧ l.length - kk ≤ gg ∧ v5 = .int .i64 kk ∧ Aside0 (Below w.heap.size w wr) ∧ Aside0 (∀ j : Nat,j < kk → gvBad lt lg (rd_T88 l j) = false))
 case atStart => exact ⟨0,Nat.zero_le _,by omega,rfl,Z_ (Below.refl _ w),Z_ (fun j hj => absurd hj (Nat.not_lt_zero _))⟩
 case round =>
  obtain ⟨kk,hkk,hg,rfl,HB,HA⟩:=hrel
  by_cases hlt : kk < l.length
  ·have hltz : (kk : Int) < (l.length : Int):=by omega
   obtain ⟨ad,e,hx0,hx1,hx2,hx3⟩:=at_T88 (Kd.C_below HR.out HB.out) (kk : Int) (by omega) (by omega)
   rw [Int.toNat_natCast] at hx0 hx1 hx2 hx3
   subst e
   have hm : rd_T88 l (kk : Int) ∈ l:=by
     have : rd_T88 l (kk : Int) = l[kk]:=by simp [rd_T88,List.getD,List.getElem?_eq_getElem hlt]
     rw [this];exact List.getElem_mem hlt
   generalize hy : rd_T88 l (kk : Int) = y at hx0 hx1 hx2 hx3 hm
   have HM:=Z_ hm
   clear hm
   have HY:=Z_ hy
   clear hy
   have BW:=Z_ (HB.out.block p (blk_lt BI.out) |>.trans BI.out)
   obtain ⟨_,_,_,_,_,_,_,_,_,_,_,_⟩:=bc6 BW.out
   obtain ⟨b1,hb1⟩ : ∃ b,b = decide (1 ≤ y.f0 ∧ y.f0 ≤ (lg.length : Int)):=⟨_,rfl⟩
   have H1:=Z_ (show spec_l1In.f y.f0 1 (lg.length : Int) = some b1 by rw [hb1];exact spec_l1In_eq' _ _ _)
   obtain ⟨b3,hb3⟩ : ∃ b,b = decide (1 ≤ y.f2 ∧ y.f2 ≤ 9999):=⟨_,rfl⟩
   have H3:=Z_ (show spec_l1In.f y.f2 1 9999 = some b3 by rw [hb3];exact spec_l1In_eq' _ _ _)
   obtain ⟨b4,hb4⟩ : ∃ b,b = decide (0 ≤ y.f3 ∧ y.f3 ≤ (lt.length : Int) - 1):=⟨_,rfl⟩
   have H4:=Z_ (show spec_l5At.f lt y.f3 = some b4 by rw [hb4];exact spec_l5At_eq' lt _ HN0.out)
   obtain ⟨b2,hb2⟩ : ∃ b,b = decide (0 ≤ y.f1 ∧ y.f1 ≤ ((rd_T76 lg (y.f0 - 1)).f2.length : Int) - 1):=⟨_,rfl⟩
   have HG:=Z_ (show gvBad lt lg y = !(b1 && b2 && b3 && b4) by rw [hb1,hb2,hb3,hb4];rfl)
   clear hb3 hb4
   have HB1:=Z_ hb1
   have HB2:=Z_ hb2
   clear hb1 hb2
   cases b1 with
   | false =>
    go_wp2_with (first | ((with_reducible refine gD_ 6 rfl ?_);refine bx_ #[.int .i64 0,.int .i64 0,.int .i64 0,.int .i64 0] 88 ?_;intro g6 hg6 w6 hbox hb;have n0_:=Z_ (bB_ BW.out hb);have n1_:=Z_ (lP_ HB.out hb);have B6:=Z_ hbox;have S6:=Z_ ((by rw [hg6];exact (below_size HB.out) : w.heap.size ≤ g6));have NE:=Z_ ((by rw [hg6];exact Nat.ne_of_lt (blk_lt BW.out)) : p ≠ g6); clear HB BW;have HB:=n1_;have BW:=n0_;clear n0_ n1_;replace hx0:=(hb.cell (World.block_lt_of_cell? wr _ hx0)).trans hx0;replace hx1:=(hb.cell (World.block_lt_of_cell? wr _ hx1)).trans hx1;replace hx2:=(hb.cell (World.block_lt_of_cell? wr _ hx2)).trans hx2;replace hx3:=(hb.cell (World.block_lt_of_cell? wr _ hx3)).trans hx3;clear hbox hb hg6;have q1:=NE.out;have q2:=NE.out.symm;obtain ⟨_,_,_,_,_,_,_,_⟩:=bc4 B6.out;obtain ⟨_,_,_,_,_,_,_,_,_,_,_,_⟩:=bc6 BW.out))
    go_quiet (first | (go_at_call 47;(with_reducible refine (spec_l1In.calls y.f0 1 (lg.length : Int) false _ H1.out).mono ?_);rintro e w' ⟨rfl,⟨nd,rfl⟩⟩;(try first | exact ⟨rfl,_,World.drewN_drewN _ _ _⟩ | exact ⟨rfl,_,Eq.trans (World.drewN_drewN _ _ _) (congrArg (World.drewN _) (Nat.add_assoc _ _ _))⟩)))
    go_wp2
    obtain rfl : r = 3:=HRS.out.trans (if_pos (List.any_eq_true.2 ⟨y,HM.out,HG.out.trans (by simp)⟩))
    go_ret
    exact ⟨rfl,Lb_⟩
   | true =>
    have hq:=of_decide_eq_true HB1.out.symm
    obtain ⟨ag,A2g,c2g,eg,hg0,hg1,hg2,_,hTC⟩:=at_T76 (Kd.C_below a2.out HB.out) (y.f0 - 1) (by omega) (by omega)
    subst eg
    obtain ⟨ji,hj⟩ : ∃ j,y.f0 - 1 = j:=⟨_,rfl⟩
    have hjiw : IntKind.i64.wrap (y.f0 - 1) = ji:=by rw [i64_w,w64g (by omega) (by have:=HN1.out;omega)];exact hj
    have hb2:=HB2.out
    clear HB2
    rw [hj] at hg2 hb2 hTC
    have pj : (0 ≤ ji) = True:=eq_true (by omega)
    have qj : (ji < (lg.length : Int)) = True:=eq_true (by omega)
    have hT:=Z_ hTC.2.1
    clear hq hg0 hg1 hTC hj
    have Q3:=Z_ (World.block_lt_of_cell? wr _ hg2)
    generalize (rd_T76 lg ji).f2 = tl at hg2 hb2 hT
    have H2:=Z_ (show spec_l1In.f y.f1 0 (wrap64 ((tl.length : Int) - 1)) = some b2 by rw [hb2,w64g (by omega) (by have:=hT.out;omega)];exact spec_l1In_eq' _ _ _)
    clear hb2
    cases b2 with
    | false =>
     go_wp2_with (first | ((with_reducible refine gD_ 6 rfl ?_);refine bx_ #[.int .i64 0,.int .i64 0,.int .i64 0,.int .i64 0] 88 ?_;intro g6 hg6 w6 hbox hb;have n0_:=Z_ (bB_ BW.out hb);have n1_:=Z_ (lP_ HB.out hb);have B6:=Z_ hbox;have S6:=Z_ ((by rw [hg6];exact (below_size HB.out) : w.heap.size ≤ g6));have NE:=Z_ ((by rw [hg6];exact Nat.ne_of_lt (blk_lt BW.out)) : p ≠ g6);have q3 : (ag.add (ji.toNat * 3)).block ≠ g6:=(by rw [hg6];exact Nat.ne_of_lt Q3.out);have q4:=q3.symm; clear HB BW;have HB:=n1_;have BW:=n0_;clear n0_ n1_;replace hx0:=(hb.cell (World.block_lt_of_cell? wr _ hx0)).trans hx0;replace hx1:=(hb.cell (World.block_lt_of_cell? wr _ hx1)).trans hx1;replace hx2:=(hb.cell (World.block_lt_of_cell? wr _ hx2)).trans hx2;replace hx3:=(hb.cell (World.block_lt_of_cell? wr _ hx3)).trans hx3;replace hg2:=(hb.cell (World.block_lt_of_cell? wr _ hg2)).trans hg2;clear hbox hb hg6;have q1:=NE.out;have q2:=NE.out.symm;obtain ⟨_,_,_,_,_,_,_,_⟩:=bc4 B6.out;obtain ⟨_,_,_,_,_,_,_,_,_,_,_,_⟩:=bc6 BW.out))
     go_quiet (first | (go_at_call 47;(with_reducible refine (spec_l1In.calls y.f0 1 (lg.length : Int) true _ H1.out).mono ?_);rintro e w' ⟨rfl,⟨nd,rfl⟩⟩;(try first | exact ⟨rfl,_,World.drewN_drewN _ _ _⟩ | exact ⟨rfl,_,Eq.trans (World.drewN_drewN _ _ _) (congrArg (World.drewN _) (Nat.add_assoc _ _ _))⟩)) | (go_at_call 47;(with_reducible refine (spec_l1In.calls y.f1 0 (wrap64 ((tl.length : Int) - 1)) false _ H2.out).mono ?_);rintro e w' ⟨rfl,⟨nd,rfl⟩⟩;(try first | exact ⟨rfl,_,World.drewN_drewN _ _ _⟩ | exact ⟨rfl,_,Eq.trans (World.drewN_drewN _ _ _) (congrArg (World.drewN _) (Nat.add_assoc _ _ _))⟩)))
     go_wp2
     obtain rfl : r = 3:=HRS.out.trans (if_pos (List.any_eq_true.2 ⟨y,HM.out,HG.out.trans (by simp)⟩))
     go_ret
     exact ⟨rfl,Lb_⟩
    | true =>
     cases b3 with
     | false =>
      go_wp2_with (first | ((with_reducible refine gD_ 6 rfl ?_);refine bx_ #[.int .i64 0,.int .i64 0,.int .i64 0,.int .i64 0] 88 ?_;intro g6 hg6 w6 hbox hb;have n0_:=Z_ (bB_ BW.out hb);have n1_:=Z_ (lP_ HB.out hb);have B6:=Z_ hbox;have S6:=Z_ ((by rw [hg6];exact (below_size HB.out) : w.heap.size ≤ g6));have NE:=Z_ ((by rw [hg6];exact Nat.ne_of_lt (blk_lt BW.out)) : p ≠ g6);have q3 : (ag.add (ji.toNat * 3)).block ≠ g6:=(by rw [hg6];exact Nat.ne_of_lt Q3.out);have q4:=q3.symm; clear HB BW;have HB:=n1_;have BW:=n0_;clear n0_ n1_;replace hx0:=(hb.cell (World.block_lt_of_cell? wr _ hx0)).trans hx0;replace hx1:=(hb.cell (World.block_lt_of_cell? wr _ hx1)).trans hx1;replace hx2:=(hb.cell (World.block_lt_of_cell? wr _ hx2)).trans hx2;replace hx3:=(hb.cell (World.block_lt_of_cell? wr _ hx3)).trans hx3;replace hg2:=(hb.cell (World.block_lt_of_cell? wr _ hg2)).trans hg2;clear hbox hb hg6;have q1:=NE.out;have q2:=NE.out.symm;obtain ⟨_,_,_,_,_,_,_,_⟩:=bc4 B6.out;obtain ⟨_,_,_,_,_,_,_,_,_,_,_,_⟩:=bc6 BW.out))
      go_quiet (first | (go_at_call 47;(with_reducible refine (spec_l1In.calls y.f0 1 (lg.length : Int) true _ H1.out).mono ?_);rintro e w' ⟨rfl,⟨nd,rfl⟩⟩;(try first | exact ⟨rfl,_,World.drewN_drewN _ _ _⟩ | exact ⟨rfl,_,Eq.trans (World.drewN_drewN _ _ _) (congrArg (World.drewN _) (Nat.add_assoc _ _ _))⟩)) | (go_at_call 47;(with_reducible refine (spec_l1In.calls y.f1 0 (wrap64 ((tl.length : Int) - 1)) true _ H2.out).mono ?_);rintro e w' ⟨rfl,⟨nd,rfl⟩⟩;(try first | exact ⟨rfl,_,World.drewN_drewN _ _ _⟩ | exact ⟨rfl,_,Eq.trans (World.drewN_drewN _ _ _) (congrArg (World.drewN _) (Nat.add_assoc _ _ _))⟩)) | (go_at_call 47;(with_reducible refine (spec_l1In.calls y.f2 1 9999 false _ H3.out).mono ?_);rintro e w' ⟨rfl,⟨nd,rfl⟩⟩;(try first | exact ⟨rfl,_,World.drewN_drewN _ _ _⟩ | exact ⟨rfl,_,Eq.trans (World.drewN_drewN _ _ _) (congrArg (World.drewN _) (Nat.add_assoc _ _ _))⟩)))
      go_wp2
      obtain rfl : r = 3:=HRS.out.trans (if_pos (List.any_eq_true.2 ⟨y,HM.out,HG.out.trans (by simp)⟩))
      go_ret
      exact ⟨rfl,Lb_⟩
     | true =>
      cases b4 with
      | false =>
       go_wp2_with (first | ((with_reducible refine gD_ 6 rfl ?_);refine bx_ #[.int .i64 0,.int .i64 0,.int .i64 0,.int .i64 0] 88 ?_;intro g6 hg6 w6 hbox hb;have n0_:=Z_ (bB_ BW.out hb);have n1_:=Z_ (lP_ HB.out hb);have B6:=Z_ hbox;have S6:=Z_ ((by rw [hg6];exact (below_size HB.out) : w.heap.size ≤ g6));have NE:=Z_ ((by rw [hg6];exact Nat.ne_of_lt (blk_lt BW.out)) : p ≠ g6);have q3 : (ag.add (ji.toNat * 3)).block ≠ g6:=(by rw [hg6];exact Nat.ne_of_lt Q3.out);have q4:=q3.symm; clear HB BW;have HB:=n1_;have BW:=n0_;clear n0_ n1_;replace hx0:=(hb.cell (World.block_lt_of_cell? wr _ hx0)).trans hx0;replace hx1:=(hb.cell (World.block_lt_of_cell? wr _ hx1)).trans hx1;replace hx2:=(hb.cell (World.block_lt_of_cell? wr _ hx2)).trans hx2;replace hx3:=(hb.cell (World.block_lt_of_cell? wr _ hx3)).trans hx3;replace hg2:=(hb.cell (World.block_lt_of_cell? wr _ hg2)).trans hg2;clear hbox hb hg6;have q1:=NE.out;have q2:=NE.out.symm;obtain ⟨_,_,_,_,_,_,_,_⟩:=bc4 B6.out;obtain ⟨_,_,_,_,_,_,_,_,_,_,_,_⟩:=bc6 BW.out))
       go_quiet (first | (go_at_call 47;(with_reducible refine (spec_l1In.calls y.f0 1 (lg.length : Int) true _ H1.out).mono ?_);rintro e w' ⟨rfl,⟨nd,rfl⟩⟩;(try first | exact ⟨rfl,_,World.drewN_drewN _ _ _⟩ | exact ⟨rfl,_,Eq.trans (World.drewN_drewN _ _ _) (congrArg (World.drewN _) (Nat.add_assoc _ _ _))⟩)) | (go_at_call 47;(with_reducible refine (spec_l1In.calls y.f1 0 (wrap64 ((tl.length : Int) - 1)) true _ H2.out).mono ?_);rintro e w' ⟨rfl,⟨nd,rfl⟩⟩;(try first | exact ⟨rfl,_,World.drewN_drewN _ _ _⟩ | exact ⟨rfl,_,Eq.trans (World.drewN_drewN _ _ _) (congrArg (World.drewN _) (Nat.add_assoc _ _ _))⟩)) | (go_at_call 47;(with_reducible refine (spec_l1In.calls y.f2 1 9999 true _ H3.out).mono ?_);rintro e w' ⟨rfl,⟨nd,rfl⟩⟩;(try first | exact ⟨rfl,_,World.drewN_drewN _ _ _⟩ | exact ⟨rfl,_,Eq.trans (World.drewN_drewN _ _ _) (congrArg (World.drewN _) (Nat.add_assoc _ _ _))⟩)) | (go_at_call 21;(with_reducible refine (spec_l5At.calls A0 c0 lt y.f3 false _ ?side1 ?side2 H4.out).mono ?_);(case side1 => first | exact Kd.C_below a0.out Lb_ | (refine Kd.C_drewN ?_ _;exact Kd.C_below a0.out Lb_));(case side2 => exact a1.out);rintro e w' ⟨rfl,⟨nd,rfl⟩⟩;(try first | exact ⟨rfl,_,World.drewN_drewN _ _ _⟩ | exact ⟨rfl,_,Eq.trans (World.drewN_drewN _ _ _) (congrArg (World.drewN _) (Nat.add_assoc _ _ _))⟩)))
       go_wp2
       obtain rfl : r = 3:=HRS.out.trans (if_pos (List.any_eq_true.2 ⟨y,HM.out,HG.out.trans (by simp)⟩))
       go_ret
       exact ⟨rfl,Lb_⟩
      | true =>
       go_wp2_with (first | ((with_reducible refine gD_ 6 rfl ?_);refine bx_ #[.int .i64 0,.int .i64 0,.int .i64 0,.int .i64 0] 88 ?_;intro g6 hg6 w6 hbox hb;have n0_:=Z_ (bB_ BW.out hb);have n1_:=Z_ (lP_ HB.out hb);have B6:=Z_ hbox;have S6:=Z_ ((by rw [hg6];exact (below_size HB.out) : w.heap.size ≤ g6));have NE:=Z_ ((by rw [hg6];exact Nat.ne_of_lt (blk_lt BW.out)) : p ≠ g6);have q3 : (ag.add (ji.toNat * 3)).block ≠ g6:=(by rw [hg6];exact Nat.ne_of_lt Q3.out);have q4:=q3.symm; clear HB BW;have HB:=n1_;have BW:=n0_;clear n0_ n1_;replace hx0:=(hb.cell (World.block_lt_of_cell? wr _ hx0)).trans hx0;replace hx1:=(hb.cell (World.block_lt_of_cell? wr _ hx1)).trans hx1;replace hx2:=(hb.cell (World.block_lt_of_cell? wr _ hx2)).trans hx2;replace hx3:=(hb.cell (World.block_lt_of_cell? wr _ hx3)).trans hx3;replace hg2:=(hb.cell (World.block_lt_of_cell? wr _ hg2)).trans hg2;clear hbox hb hg6;have q1:=NE.out;have q2:=NE.out.symm;obtain ⟨_,_,_,_,_,_,_,_⟩:=bc4 B6.out;obtain ⟨_,_,_,_,_,_,_,_,_,_,_,_⟩:=bc6 BW.out))
       go_quiet (first | (go_at_call 47;(with_reducible refine (spec_l1In.calls y.f0 1 (lg.length : Int) true _ H1.out).mono ?_);rintro e w' ⟨rfl,⟨nd,rfl⟩⟩;(try first | exact ⟨rfl,_,World.drewN_drewN _ _ _⟩ | exact ⟨rfl,_,Eq.trans (World.drewN_drewN _ _ _) (congrArg (World.drewN _) (Nat.add_assoc _ _ _))⟩)) | (go_at_call 47;(with_reducible refine (spec_l1In.calls y.f1 0 (wrap64 ((tl.length : Int) - 1)) true _ H2.out).mono ?_);rintro e w' ⟨rfl,⟨nd,rfl⟩⟩;(try first | exact ⟨rfl,_,World.drewN_drewN _ _ _⟩ | exact ⟨rfl,_,Eq.trans (World.drewN_drewN _ _ _) (congrArg (World.drewN _) (Nat.add_assoc _ _ _))⟩)) | (go_at_call 47;(with_reducible refine (spec_l1In.calls y.f2 1 9999 true _ H3.out).mono ?_);rintro e w' ⟨rfl,⟨nd,rfl⟩⟩;(try first | exact ⟨rfl,_,World.drewN_drewN _ _ _⟩ | exact ⟨rfl,_,Eq.trans (World.drewN_drewN _ _ _) (congrArg (World.drewN _) (Nat.add_assoc _ _ _))⟩)) | (go_at_call 21;(with_reducible refine (spec_l5At.calls A0 c0 lt y.f3 true _ ?side1 ?side2 H4.out).mono ?_);(case side1 => first | exact Kd.C_below a0.out Lb_ | (refine Kd.C_drewN ?_ _;exact Kd.C_below a0.out Lb_));(case side2 => exact a1.out);rintro e w' ⟨rfl,⟨nd,rfl⟩⟩;(try first | exact ⟨rfl,_,World.drewN_drewN _ _ _⟩ | exact ⟨rfl,_,Eq.trans (World.drewN_drewN _ _ _) (congrArg (World.drewN _) (Nat.add_assoc _ _ _))⟩)))
       go_wp2
       go_roundg (l.length - (kk + 1))
       case measure => omega
       case rel =>
        have hl:=HR.out.2.1
        refine ⟨kk + 1,by omega,by omega,(by rw [w64g (by omega) (by omega)];first | rfl | (push_cast;rfl)),Z_ Lb_,Z_ (fun j hj => ?_)⟩
        by_cases e : j = kk
        ·subst e
         rw [HY.out];exact HG.out
        ·exact HA.out j (by omega)
  ·have hltz : ¬ (kk : Int) < (l.length : Int):=by omega
   obtain rfl : kk = l.length:=by omega
   have hz : r = 0:=by
     refine HRS.out.trans (if_neg ?_)
     rw [Bool.not_eq_true,List.any_eq_false]
     intro x hx
     obtain ⟨j,hj,rfl⟩:=List.getElem_of_mem hx
     have:=HA.out j hj
     rw [show rd_T88 l (j : Int) = l[j] by simp [rd_T88,List.getD,List.getElem?_eq_getElem hj]] at this
     simp [this]
   subst hz
   go_wp2
   go_ret
   exact ⟨rfl,HB.out⟩
end Go.Proofs.YtcafikgabidphaaGreat.G
