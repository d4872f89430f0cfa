/- Part 2 of the proof of FnExactKnownTo: what the functions on its road do, and the plain laws. -/
import Derived.Test.YtcafikgabidphaaGreatCFnExactKnownTo1
import Derived.SizedLaws
import Derived.ChangeSlices
import Derived.Test.YtcafikgabidphaaGreatProg
import Derived.Below
import Derived.Deep.Draws
import Derived.Deep.AppendLies
import Derived.Maps.AppendAt
import Derived.OwnWalk
import Derived.Laws.BytesArg
import Derived.Laws.MakeOwn
import Derived.Laws.OwnMore
import Derived.Deep.OwnRows
import Derived.Tactics
import Derived.Lib.ConvBytes
import Derived.Laws.Slices
import Derived.WalkKit
import Derived.KernelRfl
import Derived.RowKit3
import Derived.Deep.LoopGhost
import Derived.Deep.QuietTactic
import Derived.BigQuiet
import Derived.WideLaws
import Derived.Deep.DeepCutAuto
import Derived.Deep.CutBlock
import Derived.Deep.RegionHeld3
import Derived.Laws.Rows
import Derived.Lib.AppendStr
import Derived.ArgAppend
import Derived.Laws.IdiomCopy
import Derived.OrdersHeld
import Derived.Laws.BitsLemmas
import Derived.RowKit
import Derived.WalkSpells
import Derived.Laws.Cells
import Derived.Deep.Slices
namespace Go.Proofs.YtcafikgabidphaaGreat.G
open Go.RowKit Go.Proofs.YtcafikgabidphaaGreatW.PrintWords Go.Proofs.YtcafikgabidphaaGreatW.PrintLast Go.Proofs.YtcafikgabidphaaGreatW.PrintMore
attribute [local go_sem] max2_int min2_int max_two min_two max_three min_three max_four min_four   -- for this text's walks alone
set_option linter.unusedVariables false
set_option linter.unusedSimpArgs false
def errW : Option Int → Value
  | none => .nilIface
  | some c => .iface 0 (.int .i64 c)
theorem errW_none : errW none = .nilIface:=rfl
theorem errW_some (c : Int) : errW (some c) = .iface 0 (.int .i64 c):=rfl
theorem info2 : (Tryz.prog.info? 2).map (fun i => (i.zero,i.size,i.bytes)) = some (some (.int .i64 0),1,8):=by kernel_rfl
theorem info4 : (Tryz.prog.info? 4).map (fun i => (i.zero,i.size,i.bytes)) = some (some (.bool false),1,1):=by kernel_rfl
theorem info76 : (Tryz.prog.info? 76).map (fun i => (i.zero,i.size,i.bytes)) = some (some (.agg #[(.int .i64 0),(.int .i64 0),(.slice none 0 0)]),3,40):=by kernel_rfl
theorem info83 : (Tryz.prog.info? 83).map (fun i => (i.zero,i.size,i.bytes)) = some (some (.agg #[(.int .i64 0),(.int .i64 0),(.int .i64 0),(.int .i64 0)]),4,32):=by kernel_rfl
theorem info88 : (Tryz.prog.info? 88).map (fun i => (i.zero,i.size,i.bytes)) = some (some (.agg #[(.int .i64 0),(.int .i64 0),(.int .i64 0),(.int .i64 0)]),4,32):=by kernel_rfl
theorem info114 : (Tryz.prog.info? 114).map (fun i => (i.zero,i.size,i.bytes)) = some (some (.agg #[(.int .i64 0),(.int .i64 0),(.int .i64 0),(.int .i64 0),(.int .i64 0),(.int .i64 0),(.int .i64 0),(.int .i64 0),(.int .i64 0),(.int .i64 0),(.int .i64 0),(.int .i64 0),(.int .i64 0),(.int .i64 0),(.int .i64 0),(.int .i64 0),(.int .i64 0),(.int .i64 0),(.int .i64 0),(.int .i64 0)]),20,160):=by kernel_rfl
structure S85 where
  f0 : Int
  f1 : Int
  f2 : Int
  f3 : Int
def z85 : S85:=⟨(0 : Int),(0 : Int),(0 : Int),(0 : Int)⟩
def k85 : Kd S85:=Kd.iso (Kd.pair (Kd.int .i64) (Kd.pair (Kd.int .i64) (Kd.pair (Kd.int .i64) (Kd.int .i64)))) (fun x : S85 => (x.f0,x.f1,x.f2,x.f3))
theorem k85_open {w : World} {x : S85} {cs : List Value} (h : k85.K w x cs) : cs = [.int .i64 x.f0,.int .i64 x.f1,.int .i64 x.f2,.int .i64 x.f3]:=by
  obtain ⟨_,_,rfl,rfl,⟨_,_,rfl,rfl,⟨_,_,rfl,rfl,rfl⟩⟩⟩:=h
  exact rfl
def rd_T85 (xs : List S85) (i : Int) : S85:=xs.getD i.toNat z85
theorem at_T85 {w : World} {A : Option Addr} {n : Nat} {xs : List S85} (h : Kd.C k85 w A n xs) (i : Int) (h0 : 0 ≤ i) (h1 : i < n) : ∃ ad ,A = some ad ∧ w.cell? (ad.add (i.toNat * 4)) = some (.int .i64 (rd_T85 xs i).f0) ∧ w.cell? ⟨(ad.add (i.toNat * 4)).block,(ad.add (i.toNat * 4)).off + 1,none⟩ = some (.int .i64 (rd_T85 xs i).f1) ∧ w.cell? ⟨(ad.add (i.toNat * 4)).block,(ad.add (i.toNat * 4)).off + 2,none⟩ = some (.int .i64 (rd_T85 xs i).f2) ∧ w.cell? ⟨(ad.add (i.toNat * 4)).block,(ad.add (i.toNat * 4)).off + 3,none⟩ = some (.int .i64 (rd_T85 xs i).f3):=by
  obtain ⟨ad,c,e,_,hK,hc0⟩:=Kd.C_get h z85 i h0 h1
  have hc : ∀ j u,c[j]? = some u → w.cell? (ad.add (i.toNat * 4 + j)) = some u:=hc0
  obtain rfl:=k85_open hK
  exact ⟨ad,e,hc 0 _ rfl,by rw [← add_field _ _ 1 (by omega)];exact hc 1 _ rfl,by rw [← add_field _ _ 2 (by omega)];exact hc 2 _ rfl,by rw [← add_field _ _ 3 (by omega)];exact hc 3 _ rfl⟩
structure S139 where
  f0 : Int
  f1 : Int
  f2 : Int
  f3 : Int
def z139 : S139:=⟨(0 : Int),(0 : Int),(0 : Int),(0 : Int)⟩
def k139 : Kd S139:=Kd.iso (Kd.pair (Kd.int .i64) (Kd.pair (Kd.int .i64) (Kd.pair (Kd.int .i64) (Kd.int .i64)))) (fun x : S139 => (x.f0,x.f1,x.f2,x.f3))
theorem k139_open {w : World} {x : S139} {cs : List Value} (h : k139.K w x cs) : cs = [.int .i64 x.f0,.int .i64 x.f1,.int .i64 x.f2,.int .i64 x.f3]:=by
  obtain ⟨_,_,rfl,rfl,⟨_,_,rfl,rfl,⟨_,_,rfl,rfl,rfl⟩⟩⟩:=h
  exact rfl
structure S140 where
  f0 : Int
  f1 : Int
def z140 : S140:=⟨(0 : Int),(0 : Int)⟩
def k140 : Kd S140:=Kd.iso (Kd.pair (Kd.int .i64) (Kd.int .i64)) (fun x : S140 => (x.f0,x.f1))
theorem k140_open {w : World} {x : S140} {cs : List Value} (h : k140.K w x cs) : cs = [.int .i64 x.f0,.int .i64 x.f1]:=by
  obtain ⟨_,_,rfl,rfl,rfl⟩:=h
  exact rfl
structure S142 where
  f0 : Int
  f1 : Int
  f2 : Int
  f3 : Int
  f4 : Int
  f5 : Int
  f6 : Int
  f7 : Int
  f8 : Int
  f9 : Int
  f10 : Int
  f11 : S139
  f12 : Int
  f13 : Int
  f14 : Int
  f15 : S140
def z142 : S142:=⟨(0 : Int),(0 : Int),(0 : Int),(0 : Int),(0 : Int),(0 : Int),(0 : Int),(0 : Int),(0 : Int),(0 : Int),(0 : Int),z139,(0 : Int),(0 : Int),(0 : Int),z140⟩
def k142 : Kd S142:=Kd.iso (Kd.pair (Kd.int .i64) (Kd.pair (Kd.int .i64) (Kd.pair (Kd.int .i64) (Kd.pair (Kd.int .i64) (Kd.pair (Kd.int .i64) (Kd.pair (Kd.int .i64) (Kd.pair (Kd.int .i64) (Kd.pair (Kd.int .i64) (Kd.pair (Kd.int .i64) (Kd.pair (Kd.int .i64) (Kd.pair (Kd.int .i64) (Kd.pair k139 (Kd.pair (Kd.int .i64) (Kd.pair (Kd.int .i64) (Kd.pair (Kd.int .i64) k140))))))))))))))) (fun x : S142 => (x.f0,x.f1,x.f2,x.f3,x.f4,x.f5,x.f6,x.f7,x.f8,x.f9,x.f10,x.f11,x.f12,x.f13,x.f14,x.f15))
theorem k142_open {w : World} {x : S142} {cs : List Value} (h : k142.K w x cs) : cs = [.int .i64 x.f0,.int .i64 x.f1,.int .i64 x.f2,.int .i64 x.f3,.int .i64 x.f4,.int .i64 x.f5,.int .i64 x.f6,.int .i64 x.f7,.int .i64 x.f8,.int .i64 x.f9,.int .i64 x.f10,.int .i64 x.f11.f0,.int .i64 x.f11.f1,.int .i64 x.f11.f2,.int .i64 x.f11.f3,.int .i64 x.f12,.int .i64 x.f13,.int .i64 x.f14,.int .i64 x.f15.f0,.int .i64 x.f15.f1]:=by
  obtain ⟨_,_,rfl,rfl,⟨_,_,rfl,rfl,⟨_,_,rfl,rfl,⟨_,_,rfl,rfl,⟨_,_,rfl,rfl,⟨_,_,rfl,rfl,⟨_,_,rfl,rfl,⟨_,_,rfl,rfl,⟨_,_,rfl,rfl,⟨_,_,rfl,rfl,⟨_,_,rfl,rfl,⟨_,_,rfl,s11,⟨_,_,rfl,rfl,⟨_,_,rfl,rfl,⟨_,_,rfl,rfl,s18⟩⟩⟩⟩⟩⟩⟩⟩⟩⟩⟩⟩⟩⟩⟩:=h
  obtain rfl:=k139_open s11
  obtain rfl:=k140_open s18
  exact rfl
def rd_T142 (xs : List S142) (i : Int) : S142:=xs.getD i.toNat z142
structure S71 where
  f0 : Int
  f1 : Int
  f2 : (List S142)
def z71 : S71:=⟨(0 : Int),(0 : Int),([] : List S142)⟩
def k71 : Kd S71:=Kd.iso (Kd.pair (Kd.int .i64) (Kd.pair (Kd.int .i64) (Kd.slice 142 k142))) (fun x : S71 => (x.f0,x.f1,x.f2))
theorem k71_open {w : World} {x : S71} {cs : List Value} (h : k71.K w x cs) : ∃ A2 c2,cs = [.int .i64 x.f0,.int .i64 x.f1,.slice A2 x.f2.length c2] ∧ x.f2.length ≤ c2 ∧ k142.C w A2 x.f2.length x.f2:=by
  obtain ⟨_,_,rfl,rfl,⟨_,_,rfl,rfl,⟨A2,c2,rfl,l2,g2⟩⟩⟩:=h
  exact ⟨A2,c2,rfl,l2,g2⟩
def rd_T71 (xs : List S71) (i : Int) : S71:=xs.getD i.toNat z71
theorem at_T71 {w : World} {A : Option Addr} {n : Nat} {xs : List S71} (h : Kd.C k71 w A n xs) (i : Int) (h0 : 0 ≤ i) (h1 : i < n) : ∃ ad A2 c2,A = some ad ∧ w.cell? (ad.add (i.toNat * 3)) = some (.int .i64 (rd_T71 xs i).f0) ∧ w.cell? ⟨(ad.add (i.toNat * 3)).block,(ad.add (i.toNat * 3)).off + 1,none⟩ = some (.int .i64 (rd_T71 xs i).f1) ∧ w.cell? ⟨(ad.add (i.toNat * 3)).block,(ad.add (i.toNat * 3)).off + 2,none⟩ = some (.slice A2 (rd_T71 xs i).f2.length c2) ∧ (rd_T71 xs i).f2.length ≤ c2 ∧ k142.C w A2 (rd_T71 xs i).f2.length (rd_T71 xs i).f2:=by
  obtain ⟨ad,c,e,_,hK,hc0⟩:=Kd.C_get h z71 i h0 h1
  have hc : ∀ j u,c[j]? = some u → w.cell? (ad.add (i.toNat * 3 + j)) = some u:=hc0
  obtain ⟨A2,c2,rfl,l2,g2⟩:=k71_open hK
  exact ⟨ad,A2,c2,e,hc 0 _ rfl,by rw [← add_field _ _ 1 (by omega)];exact hc 1 _ rfl,by rw [← add_field _ _ 2 (by omega)];exact hc 2 _ rfl,l2,g2⟩
structure S90 where
  f0 : Int
  f1 : Int
  f2 : Int
  f3 : Int
def z90 : S90:=⟨(0 : Int),(0 : Int),(0 : Int),(0 : Int)⟩
def k90 : Kd S90:=Kd.iso (Kd.pair (Kd.int .i64) (Kd.pair (Kd.int .i64) (Kd.pair (Kd.int .i64) (Kd.int .i64)))) (fun x : S90 => (x.f0,x.f1,x.f2,x.f3))
theorem k90_open {w : World} {x : S90} {cs : List Value} (h : k90.K w x cs) : cs = [.int .i64 x.f0,.int .i64 x.f1,.int .i64 x.f2,.int .i64 x.f3]:=by
  obtain ⟨_,_,rfl,rfl,⟨_,_,rfl,rfl,⟨_,_,rfl,rfl,rfl⟩⟩⟩:=h
  exact rfl
def rd_T90 (xs : List S90) (i : Int) : S90:=xs.getD i.toNat z90
theorem at_T90 {w : World} {A : Option Addr} {n : Nat} {xs : List S90} (h : Kd.C k90 w A n xs) (i : Int) (h0 : 0 ≤ i) (h1 : i < n) : ∃ ad ,A = some ad ∧ w.cell? (ad.add (i.toNat * 4)) = some (.int .i64 (rd_T90 xs i).f0) ∧ w.cell? ⟨(ad.add (i.toNat * 4)).block,(ad.add (i.toNat * 4)).off + 1,none⟩ = some (.int .i64 (rd_T90 xs i).f1) ∧ w.cell? ⟨(ad.add (i.toNat * 4)).block,(ad.add (i.toNat * 4)).off + 2,none⟩ = some (.int .i64 (rd_T90 xs i).f2) ∧ w.cell? ⟨(ad.add (i.toNat * 4)).block,(ad.add (i.toNat * 4)).off + 3,none⟩ = some (.int .i64 (rd_T90 xs i).f3):=by
  obtain ⟨ad,c,e,_,hK,hc0⟩:=Kd.C_get h z90 i h0 h1
  have hc : ∀ j u,c[j]? = some u → w.cell? (ad.add (i.toNat * 4 + j)) = some u:=hc0
  obtain rfl:=k90_open hK
  exact ⟨ad,e,hc 0 _ rfl,by rw [← add_field _ _ 1 (by omega)];exact hc 1 _ rfl,by rw [← add_field _ _ 2 (by omega)];exact hc 2 _ rfl,by rw [← add_field _ _ 3 (by omega)];exact hc 3 _ rfl⟩
structure S83 where
  f0 : Int
  f1 : Int
  f2 : Int
  f3 : Int
def z83 : S83:=⟨(0 : Int),(0 : Int),(0 : Int),(0 : Int)⟩
def k83 : Kd S83:=Kd.iso (Kd.pair (Kd.int .i64) (Kd.pair (Kd.int .i64) (Kd.pair (Kd.int .i64) (Kd.int .i64)))) (fun x : S83 => (x.f0,x.f1,x.f2,x.f3))
theorem k83_open {w : World} {x : S83} {cs : List Value} (h : k83.K w x cs) : cs = [.int .i64 x.f0,.int .i64 x.f1,.int .i64 x.f2,.int .i64 x.f3]:=by
  obtain ⟨_,_,rfl,rfl,⟨_,_,rfl,rfl,⟨_,_,rfl,rfl,rfl⟩⟩⟩:=h
  exact rfl
theorem k83_openM {w : World} {base : Nat} {ok : Nat → Prop} {x : S83} {cs : List Value} (h : k83.M w base ok x cs) : cs = [.int .i64 x.f0,.int .i64 x.f1,.int .i64 x.f2,.int .i64 x.f3]:=by
  obtain ⟨_,_,rfl,rfl,⟨_,_,rfl,rfl,⟨_,_,rfl,rfl,rfl⟩⟩⟩:=h
  exact rfl
theorem k83_mkM (w : World) (base : Nat) (ok : Nat → Prop) (x : S83)  : k83.M w base ok x [.int .i64 x.f0,.int .i64 x.f1,.int .i64 x.f2,.int .i64 x.f3]:=⟨[.int .i64 x.f0],[.int .i64 x.f1,.int .i64 x.f2,.int .i64 x.f3],rfl,rfl,⟨[.int .i64 x.f1],[.int .i64 x.f2,.int .i64 x.f3],rfl,rfl,⟨[.int .i64 x.f2],[.int .i64 x.f3],rfl,rfl,rfl⟩⟩⟩
def rd_T83 (xs : List S83) (i : Int) : S83:=xs.getD i.toNat z83
theorem at_T83 {w : World} {A : Option Addr} {n : Nat} {xs : List S83} (h : Kd.C k83 w A n xs) (i : Int) (h0 : 0 ≤ i) (h1 : i < n) : ∃ ad ,A = some ad ∧ w.cell? (ad.add (i.toNat * 4)) = some (.int .i64 (rd_T83 xs i).f0) ∧ w.cell? ⟨(ad.add (i.toNat * 4)).block,(ad.add (i.toNat * 4)).off + 1,none⟩ = some (.int .i64 (rd_T83 xs i).f1) ∧ w.cell? ⟨(ad.add (i.toNat * 4)).block,(ad.add (i.toNat * 4)).off + 2,none⟩ = some (.int .i64 (rd_T83 xs i).f2) ∧ w.cell? ⟨(ad.add (i.toNat * 4)).block,(ad.add (i.toNat * 4)).off + 3,none⟩ = some (.int .i64 (rd_T83 xs i).f3):=by
  obtain ⟨ad,c,e,_,hK,hc0⟩:=Kd.C_get h z83 i h0 h1
  have hc : ∀ j u,c[j]? = some u → w.cell? (ad.add (i.toNat * 4 + j)) = some u:=hc0
  obtain rfl:=k83_open hK
  exact ⟨ad,e,hc 0 _ rfl,by rw [← add_field _ _ 1 (by omega)];exact hc 1 _ rfl,by rw [← add_field _ _ 2 (by omega)];exact hc 2 _ rfl,by rw [← add_field _ _ 3 (by omega)];exact hc 3 _ rfl⟩
structure S110 where
  f0 : Int
  f1 : Int
  f2 : Int
  f3 : Int
def z110 : S110:=⟨(0 : Int),(0 : Int),(0 : Int),(0 : Int)⟩
def k110 : Kd S110:=Kd.iso (Kd.pair (Kd.int .i64) (Kd.pair (Kd.int .i64) (Kd.pair (Kd.int .i64) (Kd.int .i64)))) (fun x : S110 => (x.f0,x.f1,x.f2,x.f3))
theorem k110_open {w : World} {x : S110} {cs : List Value} (h : k110.K w x cs) : cs = [.int .i64 x.f0,.int .i64 x.f1,.int .i64 x.f2,.int .i64 x.f3]:=by
  obtain ⟨_,_,rfl,rfl,⟨_,_,rfl,rfl,⟨_,_,rfl,rfl,rfl⟩⟩⟩:=h
  exact rfl
theorem k110_openM {w : World} {base : Nat} {ok : Nat → Prop} {x : S110} {cs : List Value} (h : k110.M w base ok x cs) : cs = [.int .i64 x.f0,.int .i64 x.f1,.int .i64 x.f2,.int .i64 x.f3]:=by
  obtain ⟨_,_,rfl,rfl,⟨_,_,rfl,rfl,⟨_,_,rfl,rfl,rfl⟩⟩⟩:=h
  exact rfl
theorem k110_mkM (w : World) (base : Nat) (ok : Nat → Prop) (x : S110)  : k110.M w base ok x [.int .i64 x.f0,.int .i64 x.f1,.int .i64 x.f2,.int .i64 x.f3]:=⟨[.int .i64 x.f0],[.int .i64 x.f1,.int .i64 x.f2,.int .i64 x.f3],rfl,rfl,⟨[.int .i64 x.f1],[.int .i64 x.f2,.int .i64 x.f3],rfl,rfl,⟨[.int .i64 x.f2],[.int .i64 x.f3],rfl,rfl,rfl⟩⟩⟩
structure S112 where
  f0 : Int
  f1 : Int
def z112 : S112:=⟨(0 : Int),(0 : Int)⟩
def k112 : Kd S112:=Kd.iso (Kd.pair (Kd.int .i64) (Kd.int .i64)) (fun x : S112 => (x.f0,x.f1))
theorem k112_open {w : World} {x : S112} {cs : List Value} (h : k112.K w x cs) : cs = [.int .i64 x.f0,.int .i64 x.f1]:=by
  obtain ⟨_,_,rfl,rfl,rfl⟩:=h
  exact rfl
theorem k112_openM {w : World} {base : Nat} {ok : Nat → Prop} {x : S112} {cs : List Value} (h : k112.M w base ok x cs) : cs = [.int .i64 x.f0,.int .i64 x.f1]:=by
  obtain ⟨_,_,rfl,rfl,rfl⟩:=h
  exact rfl
theorem k112_mkM (w : World) (base : Nat) (ok : Nat → Prop) (x : S112)  : k112.M w base ok x [.int .i64 x.f0,.int .i64 x.f1]:=⟨[.int .i64 x.f0],[.int .i64 x.f1],rfl,rfl,rfl⟩
structure S114 where
  f0 : Int
  f1 : Int
  f2 : Int
  f3 : Int
  f4 : Int
  f5 : Int
  f6 : Int
  f7 : Int
  f8 : Int
  f9 : Int
  f10 : Int
  f11 : S110
  f12 : Int
  f13 : Int
  f14 : Int
  f15 : S112
def z114 : S114:=⟨(0 : Int),(0 : Int),(0 : Int),(0 : Int),(0 : Int),(0 : Int),(0 : Int),(0 : Int),(0 : Int),(0 : Int),(0 : Int),z110,(0 : Int),(0 : Int),(0 : Int),z112⟩
def k114 : Kd S114:=Kd.iso (Kd.pair (Kd.int .i64) (Kd.pair (Kd.int .i64) (Kd.pair (Kd.int .i64) (Kd.pair (Kd.int .i64) (Kd.pair (Kd.int .i64) (Kd.pair (Kd.int .i64) (Kd.pair (Kd.int .i64) (Kd.pair (Kd.int .i64) (Kd.pair (Kd.int .i64) (Kd.pair (Kd.int .i64) (Kd.pair (Kd.int .i64) (Kd.pair k110 (Kd.pair (Kd.int .i64) (Kd.pair (Kd.int .i64) (Kd.pair (Kd.int .i64) k112))))))))))))))) (fun x : S114 => (x.f0,x.f1,x.f2,x.f3,x.f4,x.f5,x.f6,x.f7,x.f8,x.f9,x.f10,x.f11,x.f12,x.f13,x.f14,x.f15))
theorem k114_open {w : World} {x : S114} {cs : List Value} (h : k114.K w x cs) : cs = [.int .i64 x.f0,.int .i64 x.f1,.int .i64 x.f2,.int .i64 x.f3,.int .i64 x.f4,.int .i64 x.f5,.int .i64 x.f6,.int .i64 x.f7,.int .i64 x.f8,.int .i64 x.f9,.int .i64 x.f10,.int .i64 x.f11.f0,.int .i64 x.f11.f1,.int .i64 x.f11.f2,.int .i64 x.f11.f3,.int .i64 x.f12,.int .i64 x.f13,.int .i64 x.f14,.int .i64 x.f15.f0,.int .i64 x.f15.f1]:=by
  obtain ⟨_,_,rfl,rfl,⟨_,_,rfl,rfl,⟨_,_,rfl,rfl,⟨_,_,rfl,rfl,⟨_,_,rfl,rfl,⟨_,_,rfl,rfl,⟨_,_,rfl,rfl,⟨_,_,rfl,rfl,⟨_,_,rfl,rfl,⟨_,_,rfl,rfl,⟨_,_,rfl,rfl,⟨_,_,rfl,s11,⟨_,_,rfl,rfl,⟨_,_,rfl,rfl,⟨_,_,rfl,rfl,s18⟩⟩⟩⟩⟩⟩⟩⟩⟩⟩⟩⟩⟩⟩⟩:=h
  obtain rfl:=k110_open s11
  obtain rfl:=k112_open s18
  exact rfl
theorem k114_openM {w : World} {base : Nat} {ok : Nat → Prop} {x : S114} {cs : List Value} (h : k114.M w base ok x cs) : cs = [.int .i64 x.f0,.int .i64 x.f1,.int .i64 x.f2,.int .i64 x.f3,.int .i64 x.f4,.int .i64 x.f5,.int .i64 x.f6,.int .i64 x.f7,.int .i64 x.f8,.int .i64 x.f9,.int .i64 x.f10,.int .i64 x.f11.f0,.int .i64 x.f11.f1,.int .i64 x.f11.f2,.int .i64 x.f11.f3,.int .i64 x.f12,.int .i64 x.f13,.int .i64 x.f14,.int .i64 x.f15.f0,.int .i64 x.f15.f1]:=by
  obtain ⟨_,_,rfl,rfl,⟨_,_,rfl,rfl,⟨_,_,rfl,rfl,⟨_,_,rfl,rfl,⟨_,_,rfl,rfl,⟨_,_,rfl,rfl,⟨_,_,rfl,rfl,⟨_,_,rfl,rfl,⟨_,_,rfl,rfl,⟨_,_,rfl,rfl,⟨_,_,rfl,rfl,⟨_,_,rfl,s11,⟨_,_,rfl,rfl,⟨_,_,rfl,rfl,⟨_,_,rfl,rfl,s18⟩⟩⟩⟩⟩⟩⟩⟩⟩⟩⟩⟩⟩⟩⟩:=h
  obtain rfl:=k110_openM s11
  obtain rfl:=k112_openM s18
  exact rfl
theorem k114_mkM (w : World) (base : Nat) (ok : Nat → Prop) (x : S114)  : k114.M w base ok x [.int .i64 x.f0,.int .i64 x.f1,.int .i64 x.f2,.int .i64 x.f3,.int .i64 x.f4,.int .i64 x.f5,.int .i64 x.f6,.int .i64 x.f7,.int .i64 x.f8,.int .i64 x.f9,.int .i64 x.f10,.int .i64 x.f11.f0,.int .i64 x.f11.f1,.int .i64 x.f11.f2,.int .i64 x.f11.f3,.int .i64 x.f12,.int .i64 x.f13,.int .i64 x.f14,.int .i64 x.f15.f0,.int .i64 x.f15.f1]:=⟨[.int .i64 x.f0],[.int .i64 x.f1,.int .i64 x.f2,.int .i64 x.f3,.int .i64 x.f4,.int .i64 x.f5,.int .i64 x.f6,.int .i64 x.f7,.int .i64 x.f8,.int .i64 x.f9,.int .i64 x.f10,.int .i64 x.f11.f0,.int .i64 x.f11.f1,.int .i64 x.f11.f2,.int .i64 x.f11.f3,.int .i64 x.f12,.int .i64 x.f13,.int .i64 x.f14,.int .i64 x.f15.f0,.int .i64 x.f15.f1],rfl,rfl,⟨[.int .i64 x.f1],[.int .i64 x.f2,.int .i64 x.f3,.int .i64 x.f4,.int .i64 x.f5,.int .i64 x.f6,.int .i64 x.f7,.int .i64 x.f8,.int .i64 x.f9,.int .i64 x.f10,.int .i64 x.f11.f0,.int .i64 x.f11.f1,.int .i64 x.f11.f2,.int .i64 x.f11.f3,.int .i64 x.f12,.int .i64 x.f13,.int .i64 x.f14,.int .i64 x.f15.f0,.int .i64 x.f15.f1],rfl,rfl,⟨[.int .i64 x.f2],[.int .i64 x.f3,.int .i64 x.f4,.int .i64 x.f5,.int .i64 x.f6,.int .i64 x.f7,.int .i64 x.f8,.int .i64 x.f9,.int .i64 x.f10,.int .i64 x.f11.f0,.int .i64 x.f11.f1,.int .i64 x.f11.f2,.int .i64 x.f11.f3,.int .i64 x.f12,.int .i64 x.f13,.int .i64 x.f14,.int .i64 x.f15.f0,.int .i64 x.f15.f1],rfl,rfl,⟨[.int .i64 x.f3],[.int .i64 x.f4,.int .i64 x.f5,.int .i64 x.f6,.int .i64 x.f7,.int .i64 x.f8,.int .i64 x.f9,.int .i64 x.f10,.int .i64 x.f11.f0,.int .i64 x.f11.f1,.int .i64 x.f11.f2,.int .i64 x.f11.f3,.int .i64 x.f12,.int .i64 x.f13,.int .i64 x.f14,.int .i64 x.f15.f0,.int .i64 x.f15.f1],rfl,rfl,⟨[.int .i64 x.f4],[.int .i64 x.f5,.int .i64 x.f6,.int .i64 x.f7,.int .i64 x.f8,.int .i64 x.f9,.int .i64 x.f10,.int .i64 x.f11.f0,.int .i64 x.f11.f1,.int .i64 x.f11.f2,.int .i64 x.f11.f3,.int .i64 x.f12,.int .i64 x.f13,.int .i64 x.f14,.int .i64 x.f15.f0,.int .i64 x.f15.f1],rfl,rfl,⟨[.int .i64 x.f5],[.int .i64 x.f6,.int .i64 x.f7,.int .i64 x.f8,.int .i64 x.f9,.int .i64 x.f10,.int .i64 x.f11.f0,.int .i64 x.f11.f1,.int .i64 x.f11.f2,.int .i64 x.f11.f3,.int .i64 x.f12,.int .i64 x.f13,.int .i64 x.f14,.int .i64 x.f15.f0,.int .i64 x.f15.f1],rfl,rfl,⟨[.int .i64 x.f6],[.int .i64 x.f7,.int .i64 x.f8,.int .i64 x.f9,.int .i64 x.f10,.int .i64 x.f11.f0,.int .i64 x.f11.f1,.int .i64 x.f11.f2,.int .i64 x.f11.f3,.int .i64 x.f12,.int .i64 x.f13,.int .i64 x.f14,.int .i64 x.f15.f0,.int .i64 x.f15.f1],rfl,rfl,⟨[.int .i64 x.f7],[.int .i64 x.f8,.int .i64 x.f9,.int .i64 x.f10,.int .i64 x.f11.f0,.int .i64 x.f11.f1,.int .i64 x.f11.f2,.int .i64 x.f11.f3,.int .i64 x.f12,.int .i64 x.f13,.int .i64 x.f14,.int .i64 x.f15.f0,.int .i64 x.f15.f1],rfl,rfl,⟨[.int .i64 x.f8],[.int .i64 x.f9,.int .i64 x.f10,.int .i64 x.f11.f0,.int .i64 x.f11.f1,.int .i64 x.f11.f2,.int .i64 x.f11.f3,.int .i64 x.f12,.int .i64 x.f13,.int .i64 x.f14,.int .i64 x.f15.f0,.int .i64 x.f15.f1],rfl,rfl,⟨[.int .i64 x.f9],[.int .i64 x.f10,.int .i64 x.f11.f0,.int .i64 x.f11.f1,.int .i64 x.f11.f2,.int .i64 x.f11.f3,.int .i64 x.f12,.int .i64 x.f13,.int .i64 x.f14,.int .i64 x.f15.f0,.int .i64 x.f15.f1],rfl,rfl,⟨[.int .i64 x.f10],[.int .i64 x.f11.f0,.int .i64 x.f11.f1,.int .i64 x.f11.f2,.int .i64 x.f11.f3,.int .i64 x.f12,.int .i64 x.f13,.int .i64 x.f14,.int .i64 x.f15.f0,.int .i64 x.f15.f1],rfl,rfl,⟨[.int .i64 x.f11.f0,.int .i64 x.f11.f1,.int .i64 x.f11.f2,.int .i64 x.f11.f3],[.int .i64 x.f12,.int .i64 x.f13,.int .i64 x.f14,.int .i64 x.f15.f0,.int .i64 x.f15.f1],rfl,(k110_mkM w base ok x.f11 ),⟨[.int .i64 x.f12],[.int .i64 x.f13,.int .i64 x.f14,.int .i64 x.f15.f0,.int .i64 x.f15.f1],rfl,rfl,⟨[.int .i64 x.f13],[.int .i64 x.f14,.int .i64 x.f15.f0,.int .i64 x.f15.f1],rfl,rfl,⟨[.int .i64 x.f14],[.int .i64 x.f15.f0,.int .i64 x.f15.f1],rfl,rfl,(k112_mkM w base ok x.f15 )⟩⟩⟩⟩⟩⟩⟩⟩⟩⟩⟩⟩⟩⟩⟩
def rd_T114 (xs : List S114) (i : Int) : S114:=xs.getD i.toNat z114
theorem at_T114 {w : World} {A : Option Addr} {n : Nat} {xs : List S114} (h : Kd.C k114 w A n xs) (i : Int) (h0 : 0 ≤ i) (h1 : i < n) : ∃ ad ,A = some ad ∧ w.cell? (ad.add (i.toNat * 20)) = some (.int .i64 (rd_T114 xs i).f0) ∧ w.cell? ⟨(ad.add (i.toNat * 20)).block,(ad.add (i.toNat * 20)).off + 1,none⟩ = some (.int .i64 (rd_T114 xs i).f1) ∧ w.cell? ⟨(ad.add (i.toNat * 20)).block,(ad.add (i.toNat * 20)).off + 2,none⟩ = some (.int .i64 (rd_T114 xs i).f2) ∧ w.cell? ⟨(ad.add (i.toNat * 20)).block,(ad.add (i.toNat * 20)).off + 3,none⟩ = some (.int .i64 (rd_T114 xs i).f3) ∧ w.cell? ⟨(ad.add (i.toNat * 20)).block,(ad.add (i.toNat * 20)).off + 4,none⟩ = some (.int .i64 (rd_T114 xs i).f4) ∧ w.cell? ⟨(ad.add (i.toNat * 20)).block,(ad.add (i.toNat * 20)).off + 5,none⟩ = some (.int .i64 (rd_T114 xs i).f5) ∧ w.cell? ⟨(ad.add (i.toNat * 20)).block,(ad.add (i.toNat * 20)).off + 6,none⟩ = some (.int .i64 (rd_T114 xs i).f6) ∧ w.cell? ⟨(ad.add (i.toNat * 20)).block,(ad.add (i.toNat * 20)).off + 7,none⟩ = some (.int .i64 (rd_T114 xs i).f7) ∧ w.cell? ⟨(ad.add (i.toNat * 20)).block,(ad.add (i.toNat * 20)).off + 8,none⟩ = some (.int .i64 (rd_T114 xs i).f8) ∧ w.cell? ⟨(ad.add (i.toNat * 20)).block,(ad.add (i.toNat * 20)).off + 9,none⟩ = some (.int .i64 (rd_T114 xs i).f9) ∧ w.cell? ⟨(ad.add (i.toNat * 20)).block,(ad.add (i.toNat * 20)).off + 10,none⟩ = some (.int .i64 (rd_T114 xs i).f10) ∧ w.cell? ⟨(ad.add (i.toNat * 20)).block,(ad.add (i.toNat * 20)).off + 11,none⟩ = some (.int .i64 (rd_T114 xs i).f11.f0) ∧ w.cell? ⟨(ad.add (i.toNat * 20)).block,(ad.add (i.toNat * 20)).off + 12,none⟩ = some (.int .i64 (rd_T114 xs i).f11.f1) ∧ w.cell? ⟨(ad.add (i.toNat * 20)).block,(ad.add (i.toNat * 20)).off + 13,none⟩ = some (.int .i64 (rd_T114 xs i).f11.f2) ∧ w.cell? ⟨(ad.add (i.toNat * 20)).block,(ad.add (i.toNat * 20)).off + 14,none⟩ = some (.int .i64 (rd_T114 xs i).f11.f3) ∧ w.cell? ⟨(ad.add (i.toNat * 20)).block,(ad.add (i.toNat * 20)).off + 15,none⟩ = some (.int .i64 (rd_T114 xs i).f12) ∧ w.cell? ⟨(ad.add (i.toNat * 20)).block,(ad.add (i.toNat * 20)).off + 16,none⟩ = some (.int .i64 (rd_T114 xs i).f13) ∧ w.cell? ⟨(ad.add (i.toNat * 20)).block,(ad.add (i.toNat * 20)).off + 17,none⟩ = some (.int .i64 (rd_T114 xs i).f14) ∧ w.cell? ⟨(ad.add (i.toNat * 20)).block,(ad.add (i.toNat * 20)).off + 18,none⟩ = some (.int .i64 (rd_T114 xs i).f15.f0) ∧ w.cell? ⟨(ad.add (i.toNat * 20)).block,(ad.add (i.toNat * 20)).off + 19,none⟩ = some (.int .i64 (rd_T114 xs i).f15.f1):=by
  obtain ⟨ad,c,e,_,hK,hc0⟩:=Kd.C_get h z114 i h0 h1
  have hc : ∀ j u,c[j]? = some u → w.cell? (ad.add (i.toNat * 20 + j)) = some u:=hc0
  obtain rfl:=k114_open hK
  exact ⟨ad,e,hc 0 _ rfl,by rw [← add_field _ _ 1 (by omega)];exact hc 1 _ rfl,by rw [← add_field _ _ 2 (by omega)];exact hc 2 _ rfl,by rw [← add_field _ _ 3 (by omega)];exact hc 3 _ rfl,by rw [← add_field _ _ 4 (by omega)];exact hc 4 _ rfl,by rw [← add_field _ _ 5 (by omega)];exact hc 5 _ rfl,by rw [← add_field _ _ 6 (by omega)];exact hc 6 _ rfl,by rw [← add_field _ _ 7 (by omega)];exact hc 7 _ rfl,by rw [← add_field _ _ 8 (by omega)];exact hc 8 _ rfl,by rw [← add_field _ _ 9 (by omega)];exact hc 9 _ rfl,by rw [← add_field _ _ 10 (by omega)];exact hc 10 _ rfl,by rw [← add_field _ _ 11 (by omega)];exact hc 11 _ rfl,by rw [← add_field _ _ 12 (by omega)];exact hc 12 _ rfl,by rw [← add_field _ _ 13 (by omega)];exact hc 13 _ rfl,by rw [← add_field _ _ 14 (by omega)];exact hc 14 _ rfl,by rw [← add_field _ _ 15 (by omega)];exact hc 15 _ rfl,by rw [← add_field _ _ 16 (by omega)];exact hc 16 _ rfl,by rw [← add_field _ _ 17 (by omega)];exact hc 17 _ rfl,by rw [← add_field _ _ 18 (by omega)];exact hc 18 _ rfl,by rw [← add_field _ _ 19 (by omega)];exact hc 19 _ rfl⟩
structure S88 where
  f0 : Int
  f1 : Int
  f2 : Int
  f3 : Int
def z88 : S88:=⟨(0 : Int),(0 : Int),(0 : Int),(0 : Int)⟩
def k88 : Kd S88:=Kd.iso (Kd.pair (Kd.int .i64) (Kd.pair (Kd.int .i64) (Kd.pair (Kd.int .i64) (Kd.int .i64)))) (fun x : S88 => (x.f0,x.f1,x.f2,x.f3))
theorem k88_open {w : World} {x : S88} {cs : List Value} (h : k88.K w x cs) : cs = [.int .i64 x.f0,.int .i64 x.f1,.int .i64 x.f2,.int .i64 x.f3]:=by
  obtain ⟨_,_,rfl,rfl,⟨_,_,rfl,rfl,⟨_,_,rfl,rfl,rfl⟩⟩⟩:=h
  exact rfl
theorem k88_openM {w : World} {base : Nat} {ok : Nat → Prop} {x : S88} {cs : List Value} (h : k88.M w base ok x cs) : cs = [.int .i64 x.f0,.int .i64 x.f1,.int .i64 x.f2,.int .i64 x.f3]:=by
  obtain ⟨_,_,rfl,rfl,⟨_,_,rfl,rfl,⟨_,_,rfl,rfl,rfl⟩⟩⟩:=h
  exact rfl
theorem k88_mkM (w : World) (base : Nat) (ok : Nat → Prop) (x : S88)  : k88.M w base ok x [.int .i64 x.f0,.int .i64 x.f1,.int .i64 x.f2,.int .i64 x.f3]:=⟨[.int .i64 x.f0],[.int .i64 x.f1,.int .i64 x.f2,.int .i64 x.f3],rfl,rfl,⟨[.int .i64 x.f1],[.int .i64 x.f2,.int .i64 x.f3],rfl,rfl,⟨[.int .i64 x.f2],[.int .i64 x.f3],rfl,rfl,rfl⟩⟩⟩
def rd_T88 (xs : List S88) (i : Int) : S88:=xs.getD i.toNat z88
theorem at_T88 {w : World} {A : Option Addr} {n : Nat} {xs : List S88} (h : Kd.C k88 w A n xs) (i : Int) (h0 : 0 ≤ i) (h1 : i < n) : ∃ ad ,A = some ad ∧ w.cell? (ad.add (i.toNat * 4)) = some (.int .i64 (rd_T88 xs i).f0) ∧ w.cell? ⟨(ad.add (i.toNat * 4)).block,(ad.add (i.toNat * 4)).off + 1,none⟩ = some (.int .i64 (rd_T88 xs i).f1) ∧ w.cell? ⟨(ad.add (i.toNat * 4)).block,(ad.add (i.toNat * 4)).off + 2,none⟩ = some (.int .i64 (rd_T88 xs i).f2) ∧ w.cell? ⟨(ad.add (i.toNat * 4)).block,(ad.add (i.toNat * 4)).off + 3,none⟩ = some (.int .i64 (rd_T88 xs i).f3):=by
  obtain ⟨ad,c,e,_,hK,hc0⟩:=Kd.C_get h z88 i h0 h1
  have hc : ∀ j u,c[j]? = some u → w.cell? (ad.add (i.toNat * 4 + j)) = some u:=hc0
  obtain rfl:=k88_open hK
  exact ⟨ad,e,hc 0 _ rfl,by rw [← add_field _ _ 1 (by omega)];exact hc 1 _ rfl,by rw [← add_field _ _ 2 (by omega)];exact hc 2 _ rfl,by rw [← add_field _ _ 3 (by omega)];exact hc 3 _ rfl⟩
def rd_L13 (xs : List (List S88)) (i : Int) : (List S88):=xs.getD i.toNat ([] : List S88)
theorem at_L13 {w : World} {A : Option Addr} {n : Nat} {xs : List (List S88)} (h : Kd.C (Kd.slice 88 k88) w A n xs) (i : Int) (h0 : 0 ≤ i) (h1 : i < n) : ∃ ad A0 c0,A = some ad ∧ w.cell? (ad.add i.toNat) = some (.slice A0 (rd_L13 xs i).length c0) ∧ (rd_L13 xs i).length ≤ c0 ∧ k88.C w A0 (rd_L13 xs i).length (rd_L13 xs i):=by
  obtain ⟨ad,c,e,_,hK,hc0⟩:=Kd.C_get h ([] : List S88) i h0 h1
  have hc : ∀ j u,c[j]? = some u → w.cell? (ad.add (i.toNat * 1 + j)) = some u:=hc0
  obtain ⟨A0,c0,rfl,l0,g0⟩:=hK
  exact ⟨ad,A0,c0,e,by have hq:=hc 0 _ rfl;rwa [Nat.mul_one,Nat.add_zero] at hq,l0,g0⟩
structure S76 where
  f0 : Int
  f1 : Int
  f2 : (List S114)
def z76 : S76:=⟨(0 : Int),(0 : Int),([] : List S114)⟩
def k76 : Kd S76:=Kd.iso (Kd.pair (Kd.int .i64) (Kd.pair (Kd.int .i64) (Kd.slice 114 k114))) (fun x : S76 => (x.f0,x.f1,x.f2))
theorem k76_open {w : World} {x : S76} {cs : List Value} (h : k76.K w x cs) : ∃ A2 c2,cs = [.int .i64 x.f0,.int .i64 x.f1,.slice A2 x.f2.length c2] ∧ x.f2.length ≤ c2 ∧ k114.C w A2 x.f2.length x.f2:=by
  obtain ⟨_,_,rfl,rfl,⟨_,_,rfl,rfl,⟨A2,c2,rfl,l2,g2⟩⟩⟩:=h
  exact ⟨A2,c2,rfl,l2,g2⟩
theorem k76_openM {w : World} {base : Nat} {ok : Nat → Prop} {x : S76} {cs : List Value} (h : k76.M w base ok x cs) : ∃ v2,cs = [.int .i64 x.f0,.int .i64 x.f1,v2] ∧ k114.R 114 w base ok v2 x.f2:=by
  obtain ⟨_,_,rfl,rfl,⟨_,_,rfl,rfl,⟨v2,rfl,g2⟩⟩⟩:=h
  exact ⟨v2,rfl,g2⟩
theorem k76_mkM (w : World) (base : Nat) (ok : Nat → Prop) (x : S76) {v2 : Value} (g2 : k114.R 114 w base ok v2 x.f2) : k76.M w base ok x [.int .i64 x.f0,.int .i64 x.f1,v2]:=⟨[.int .i64 x.f0],[.int .i64 x.f1,v2],rfl,rfl,⟨[.int .i64 x.f1],[v2],rfl,rfl,⟨v2,rfl,g2⟩⟩⟩
def rd_T76 (xs : List S76) (i : Int) : S76:=xs.getD i.toNat z76
theorem at_T76 {w : World} {A : Option Addr} {n : Nat} {xs : List S76} (h : Kd.C k76 w A n xs) (i : Int) (h0 : 0 ≤ i) (h1 : i < n) : ∃ ad A2 c2,A = some ad ∧ w.cell? (ad.add (i.toNat * 3)) = some (.int .i64 (rd_T76 xs i).f0) ∧ w.cell? ⟨(ad.add (i.toNat * 3)).block,(ad.add (i.toNat * 3)).off + 1,none⟩ = some (.int .i64 (rd_T76 xs i).f1) ∧ w.cell? ⟨(ad.add (i.toNat * 3)).block,(ad.add (i.toNat * 3)).off + 2,none⟩ = some (.slice A2 (rd_T76 xs i).f2.length c2) ∧ (rd_T76 xs i).f2.length ≤ c2 ∧ k114.C w A2 (rd_T76 xs i).f2.length (rd_T76 xs i).f2:=by
  obtain ⟨ad,c,e,_,hK,hc0⟩:=Kd.C_get h z76 i h0 h1
  have hc : ∀ j u,c[j]? = some u → w.cell? (ad.add (i.toNat * 3 + j)) = some u:=hc0
  obtain ⟨A2,c2,rfl,l2,g2⟩:=k76_open hK
  exact ⟨ad,A2,c2,e,hc 0 _ rfl,by rw [← add_field _ _ 1 (by omega)];exact hc 1 _ rfl,by rw [← add_field _ _ 2 (by omega)];exact hc 2 _ rfl,l2,g2⟩
theorem lA_ {α : Type _} (l : List α) (i : Nat) (a : α) : l.toArray.setIfInBounds i a = (l.set i a).toArray:=List.setIfInBounds_toArray l i a
theorem lZ_ {α : Type _} {x a : α} {xs : List α} : (x :: xs).set 0 a = a :: xs:=rfl
theorem lS_ {α : Type _} {x a : α} {xs : List α} {i : Nat} : (x :: xs).set (i + 1) a = x :: xs.set i a:=rfl
theorem bc2 {w : World} {g : Nat} {t : TypeId} {c0 c1 : Value} (h : w.heap[g]? = some (.cells #[c0,c1] t (0,0))) : w.cell? ⟨g,0,none⟩ = some c0 ∧ w.cell? ⟨g,1,none⟩ = some c1 ∧ w.frozen? ⟨g,0,none⟩ = false ∧ w.frozen? ⟨g,1,none⟩ = false:=⟨(blk_cell h 0).trans rfl,(blk_cell h 1).trans rfl,blk_frozen h 0,blk_frozen h 1⟩
theorem bc3 {w : World} {g : Nat} {t : TypeId} {c0 c1 c2 : Value} (h : w.heap[g]? = some (.cells #[c0,c1,c2] t (0,0))) : w.cell? ⟨g,0,none⟩ = some c0 ∧ w.cell? ⟨g,1,none⟩ = some c1 ∧ w.cell? ⟨g,2,none⟩ = some c2 ∧ w.frozen? ⟨g,0,none⟩ = false ∧ w.frozen? ⟨g,1,none⟩ = false ∧ w.frozen? ⟨g,2,none⟩ = false:=⟨(blk_cell h 0).trans rfl,(blk_cell h 1).trans rfl,(blk_cell h 2).trans rfl,blk_frozen h 0,blk_frozen h 1,blk_frozen h 2⟩
theorem bc4 {w : World} {g : Nat} {t : TypeId} {c0 c1 c2 c3 : Value} (h : w.heap[g]? = some (.cells #[c0,c1,c2,c3] t (0,0))) : w.cell? ⟨g,0,none⟩ = some c0 ∧ w.cell? ⟨g,1,none⟩ = some c1 ∧ w.cell? ⟨g,2,none⟩ = some c2 ∧ w.cell? ⟨g,3,none⟩ = some c3 ∧ w.frozen? ⟨g,0,none⟩ = false ∧ w.frozen? ⟨g,1,none⟩ = false ∧ w.frozen? ⟨g,2,none⟩ = false ∧ w.frozen? ⟨g,3,none⟩ = false:=⟨(blk_cell h 0).trans rfl,(blk_cell h 1).trans rfl,(blk_cell h 2).trans rfl,(blk_cell h 3).trans rfl,blk_frozen h 0,blk_frozen h 1,blk_frozen h 2,blk_frozen h 3⟩
theorem bc6 {w : World} {g : Nat} {t : TypeId} {c0 c1 c2 c3 c4 c5 : Value} (h : w.heap[g]? = some (.cells #[c0,c1,c2,c3,c4,c5] t (0,0))) : w.cell? ⟨g,0,none⟩ = some c0 ∧ w.cell? ⟨g,1,none⟩ = some c1 ∧ w.cell? ⟨g,2,none⟩ = some c2 ∧ w.cell? ⟨g,3,none⟩ = some c3 ∧ w.cell? ⟨g,4,none⟩ = some c4 ∧ w.cell? ⟨g,5,none⟩ = some c5 ∧ w.frozen? ⟨g,0,none⟩ = false ∧ w.frozen? ⟨g,1,none⟩ = false ∧ w.frozen? ⟨g,2,none⟩ = false ∧ w.frozen? ⟨g,3,none⟩ = false ∧ w.frozen? ⟨g,4,none⟩ = false ∧ w.frozen? ⟨g,5,none⟩ = false:=⟨(blk_cell h 0).trans rfl,(blk_cell h 1).trans rfl,(blk_cell h 2).trans rfl,(blk_cell h 3).trans rfl,(blk_cell h 4).trans rfl,(blk_cell h 5).trans rfl,blk_frozen h 0,blk_frozen h 1,blk_frozen h 2,blk_frozen h 3,blk_frozen h 4,blk_frozen h 5⟩
theorem bc20 {w : World} {g : Nat} {t : TypeId} {c0 c1 c2 c3 c4 c5 c6 c7 c8 c9 c10 c11 c12 c13 c14 c15 c16 c17 c18 c19 : Value} (h : w.heap[g]? = some (.cells #[c0,c1,c2,c3,c4,c5,c6,c7,c8,c9,c10,c11,c12,c13,c14,c15,c16,c17,c18,c19] t (0,0))) : w.cell? ⟨g,0,none⟩ = some c0 ∧ w.cell? ⟨g,1,none⟩ = some c1 ∧ w.cell? ⟨g,2,none⟩ = some c2 ∧ w.cell? ⟨g,3,none⟩ = some c3 ∧ w.cell? ⟨g,4,none⟩ = some c4 ∧ w.cell? ⟨g,5,none⟩ = some c5 ∧ w.cell? ⟨g,6,none⟩ = some c6 ∧ w.cell? ⟨g,7,none⟩ = some c7 ∧ w.cell? ⟨g,8,none⟩ = some c8 ∧ w.cell? ⟨g,9,none⟩ = some c9 ∧ w.cell? ⟨g,10,none⟩ = some c10 ∧ w.cell? ⟨g,11,none⟩ = some c11 ∧ w.cell? ⟨g,12,none⟩ = some c12 ∧ w.cell? ⟨g,13,none⟩ = some c13 ∧ w.cell? ⟨g,14,none⟩ = some c14 ∧ w.cell? ⟨g,15,none⟩ = some c15 ∧ w.cell? ⟨g,16,none⟩ = some c16 ∧ w.cell? ⟨g,17,none⟩ = some c17 ∧ w.cell? ⟨g,18,none⟩ = some c18 ∧ w.cell? ⟨g,19,none⟩ = some c19 ∧ w.frozen? ⟨g,0,none⟩ = false ∧ w.frozen? ⟨g,1,none⟩ = false ∧ w.frozen? ⟨g,2,none⟩ = false ∧ w.frozen? ⟨g,3,none⟩ = false ∧ w.frozen? ⟨g,4,none⟩ = false ∧ w.frozen? ⟨g,5,none⟩ = false ∧ w.frozen? ⟨g,6,none⟩ = false ∧ w.frozen? ⟨g,7,none⟩ = false ∧ w.frozen? ⟨g,8,none⟩ = false ∧ w.frozen? ⟨g,9,none⟩ = false ∧ w.frozen? ⟨g,10,none⟩ = false ∧ w.frozen? ⟨g,11,none⟩ = false ∧ w.frozen? ⟨g,12,none⟩ = false ∧ w.frozen? ⟨g,13,none⟩ = false ∧ w.frozen? ⟨g,14,none⟩ = false ∧ w.frozen? ⟨g,15,none⟩ = false ∧ w.frozen? ⟨g,16,none⟩ = false ∧ w.frozen? ⟨g,17,none⟩ = false ∧ w.frozen? ⟨g,18,none⟩ = false ∧ w.frozen? ⟨g,19,none⟩ = false:=⟨(blk_cell h 0).trans rfl,(blk_cell h 1).trans rfl,(blk_cell h 2).trans rfl,(blk_cell h 3).trans rfl,(blk_cell h 4).trans rfl,(blk_cell h 5).trans rfl,(blk_cell h 6).trans rfl,(blk_cell h 7).trans rfl,(blk_cell h 8).trans rfl,(blk_cell h 9).trans rfl,(blk_cell h 10).trans rfl,(blk_cell h 11).trans rfl,(blk_cell h 12).trans rfl,(blk_cell h 13).trans rfl,(blk_cell h 14).trans rfl,(blk_cell h 15).trans rfl,(blk_cell h 16).trans rfl,(blk_cell h 17).trans rfl,(blk_cell h 18).trans rfl,(blk_cell h 19).trans rfl,blk_frozen h 0,blk_frozen h 1,blk_frozen h 2,blk_frozen h 3,blk_frozen h 4,blk_frozen h 5,blk_frozen h 6,blk_frozen h 7,blk_frozen h 8,blk_frozen h 9,blk_frozen h 10,blk_frozen h 11,blk_frozen h 12,blk_frozen h 13,blk_frozen h 14,blk_frozen h 15,blk_frozen h 16,blk_frozen h 17,blk_frozen h 18,blk_frozen h 19⟩
theorem fill2 {w : World} {g : Nat} {t : TypeId} {c0 c1 v0 v1 : Value} (h : w.heap[g]? = some (.cells #[c0,c1] t (0,0))) : ((w.setCell ⟨g,0,none⟩ v0).setCell ⟨g,1,none⟩ v1).heap[g]? = some (.cells #[v0,v1] t (0,0)):=(blk_put (cs':=#[v0,v1]) (blk_put (cs':=#[v0,c1]) h 0 v0 rfl) 1 v1 rfl)
theorem fill3 {w : World} {g : Nat} {t : TypeId} {c0 c1 c2 v0 v1 v2 : Value} (h : w.heap[g]? = some (.cells #[c0,c1,c2] t (0,0))) : (((w.setCell ⟨g,0,none⟩ v0).setCell ⟨g,1,none⟩ v1).setCell ⟨g,2,none⟩ v2).heap[g]? = some (.cells #[v0,v1,v2] t (0,0)):=(blk_put (cs':=#[v0,v1,v2]) (blk_put (cs':=#[v0,v1,c2]) (blk_put (cs':=#[v0,c1,c2]) h 0 v0 rfl) 1 v1 rfl) 2 v2 rfl)
theorem fill4 {w : World} {g : Nat} {t : TypeId} {c0 c1 c2 c3 v0 v1 v2 v3 : Value} (h : w.heap[g]? = some (.cells #[c0,c1,c2,c3] t (0,0))) : ((((w.setCell ⟨g,0,none⟩ v0).setCell ⟨g,1,none⟩ v1).setCell ⟨g,2,none⟩ v2).setCell ⟨g,3,none⟩ v3).heap[g]? = some (.cells #[v0,v1,v2,v3] t (0,0)):=(blk_put (cs':=#[v0,v1,v2,v3]) (blk_put (cs':=#[v0,v1,v2,c3]) (blk_put (cs':=#[v0,v1,c2,c3]) (blk_put (cs':=#[v0,c1,c2,c3]) h 0 v0 rfl) 1 v1 rfl) 2 v2 rfl) 3 v3 rfl)
theorem fill6 {w : World} {g : Nat} {t : TypeId} {c0 c1 c2 c3 c4 c5 v0 v1 v2 v3 v4 v5 : Value} (h : w.heap[g]? = some (.cells #[c0,c1,c2,c3,c4,c5] t (0,0))) : ((((((w.setCell ⟨g,0,none⟩ v0).setCell ⟨g,1,none⟩ v1).setCell ⟨g,2,none⟩ v2).setCell ⟨g,3,none⟩ v3).setCell ⟨g,4,none⟩ v4).setCell ⟨g,5,none⟩ v5).heap[g]? = some (.cells #[v0,v1,v2,v3,v4,v5] t (0,0)):=(blk_put (cs':=#[v0,v1,v2,v3,v4,v5]) (blk_put (cs':=#[v0,v1,v2,v3,v4,c5]) (blk_put (cs':=#[v0,v1,v2,v3,c4,c5]) (blk_put (cs':=#[v0,v1,v2,c3,c4,c5]) (blk_put (cs':=#[v0,v1,c2,c3,c4,c5]) (blk_put (cs':=#[v0,c1,c2,c3,c4,c5]) h 0 v0 rfl) 1 v1 rfl) 2 v2 rfl) 3 v3 rfl) 4 v4 rfl) 5 v5 rfl)
theorem rfar2 {α : Type} {d : Kd α} {e base : Nat} {ok : Nat → Prop} {w : World} {g : Nat} {v0 v1 v : Value} {xs : List α} (h : d.R e w base ok v xs) (hok : ∀ k,ok k → k ≠ g) : d.R e ((w.setCell ⟨g,0,none⟩ v0).setCell ⟨g,1,none⟩ v1) base ok v xs:=(Kd.R_far (p:=⟨g,1,none⟩) (Kd.R_far (p:=⟨g,0,none⟩) h hok v0) hok v1)
theorem rfar3 {α : Type} {d : Kd α} {e base : Nat} {ok : Nat → Prop} {w : World} {g : Nat} {v0 v1 v2 v : Value} {xs : List α} (h : d.R e w base ok v xs) (hok : ∀ k,ok k → k ≠ g) : d.R e (((w.setCell ⟨g,0,none⟩ v0).setCell ⟨g,1,none⟩ v1).setCell ⟨g,2,none⟩ v2) base ok v xs:=(Kd.R_far (p:=⟨g,2,none⟩) (Kd.R_far (p:=⟨g,1,none⟩) (Kd.R_far (p:=⟨g,0,none⟩) h hok v0) hok v1) hok v2)
theorem rfar6 {α : Type} {d : Kd α} {e base : Nat} {ok : Nat → Prop} {w : World} {g : Nat} {v0 v1 v2 v3 v4 v5 v : Value} {xs : List α} (h : d.R e w base ok v xs) (hok : ∀ k,ok k → k ≠ g) : d.R e ((((((w.setCell ⟨g,0,none⟩ v0).setCell ⟨g,1,none⟩ v1).setCell ⟨g,2,none⟩ v2).setCell ⟨g,3,none⟩ v3).setCell ⟨g,4,none⟩ v4).setCell ⟨g,5,none⟩ v5) base ok v xs:=(Kd.R_far (p:=⟨g,5,none⟩) (Kd.R_far (p:=⟨g,4,none⟩) (Kd.R_far (p:=⟨g,3,none⟩) (Kd.R_far (p:=⟨g,2,none⟩) (Kd.R_far (p:=⟨g,1,none⟩) (Kd.R_far (p:=⟨g,0,none⟩) h hok v0) hok v1) hok v2) hok v3) hok v4) hok v5)
theorem goesA_ {P : Program} {ops : Array Oper} {Q : Exit → Act → World → Prop} {rest : List Oper} {oi : Oper} {a : Act} {w : World} (N : Option Tmp) (hd : oi.dst = N) (hg : oi.guard = none) {f : FuncId} {fn : Func} {as_ : Array Operand} {ts : Array TypeId} (hf : P.funcs[f]? = some fn) (hname : (fn.name == "runtime.NumGoroutine") = false) (hb : fn.body.isSome = true) (args : Array Value)
    (hop : oi.op = .call { callee:=.value (.func f),args:=as_,argTypes:=ts })
    (h : Calls P f args w fun e w' => ∃ v,e = .returned v ∧ wpList P ops Q rest (a.put N v) w') (hargs : as_.map a.eval = args:=by (try simp only [List.map_toArray,List.map_cons,List.map_nil]);first | done | rfl | (simp only [List.length_drop,List.length_take];rfl)) : wpList P ops Q (oi :: rest) a w :=
  goesL_ N hd hg hf hname hb args hop hargs h
abbrev rA_:=@Kd.R_alloc
abbrev rD_:=@Kd.R_drew
abbrev rN_:=@Kd.R_drewN
abbrev lA1_:=@below_alloc
abbrev lD_:=@below_drew1
abbrev lS1_:=@below_set
abbrev lP_:=@below_step
abbrev bA_:=@blk_alloc
abbrev bB_:=@blk_below
abbrev bD_:=@blk_drew
abbrev bN_:=@blk_drewN
abbrev bF_:=@blk_far
abbrev kA_:=@keep_alloc
abbrev kD_:=@keep_drew
abbrev kN_:=@keep_drewN
abbrev lN_:=@pw_below_drewN
theorem bS_ {α β : Type} {x : Option α} {f : α → Option β} {r : β} (h : x.bind f = some r) : ∃ t,Aside0 (x = some t) ∧ f t = some r:=by
  obtain ⟨t,a,b⟩:=Option.bind_eq_some_iff.mp h
  exact ⟨t,⟨a⟩,b⟩
theorem iB_ {α : Type} {t : Bool} {x y : Option α} {r : α} (h : (if t = true then x else y) = some r) : t = true ∧ x = some r ∨ t = false ∧ y = some r:=by cases t <;> simp_all
theorem iC_ {α : Type} {p : Prop} {inst : Decidable p} {x y : Option α} {r : α} (h : @ite _ p inst x y = some r) : p ∧ x = some r ∨ ¬ p ∧ y = some r:=by
  by_cases c : p
  · rw [if_pos c] at h;exact Or.inl ⟨c,h⟩
  · rw [if_neg c] at h;exact Or.inr ⟨c,h⟩
theorem iE_ {α : Type} {a b : Int} {inst : Decidable (a = b)} {x y : Option α} {r : α} (h : @ite _ (a = b) inst x y = some r) : (a == b) = true ∧ (a != b) = false ∧ x = some r ∨ (a == b) = false ∧ (a != b) = true ∧ y = some r:=by
  obtain ⟨c,h⟩ | ⟨c,h⟩:=iC_ h
  · exact Or.inl ⟨beq_iff_eq.mpr c,bne_eq_false_iff_eq.mpr c,h⟩
  · exact Or.inr ⟨beq_eq_false_iff_ne.mpr c,bne_iff_ne.mpr c,h⟩
theorem iD_ {α : Type} {p : Prop} {inst : Decidable p} {x y : Option α} {r : α} (h : @ite _ p inst x y = some r) : @decide p inst = true ∧ x = some r ∨ @decide p inst = false ∧ y = some r:=by
  obtain ⟨c,h⟩ | ⟨c,h⟩:=iC_ h
  · exact Or.inl ⟨decide_eq_true c,h⟩
  · exact Or.inr ⟨decide_eq_false c,h⟩
theorem iN_ {α : Type} {p : Prop} {inst : Decidable p} {x : Option α} {r : α} (h : @ite _ p inst x none = some r) : p ∧ x = some r:=by
  obtain ⟨c,h⟩ | ⟨c,h⟩:=iC_ h
  · exact ⟨c,h⟩
  · cases h
theorem iM_ {α : Type} {p : Prop} {inst : Decidable p} {x : Option α} {r : α} (h : @ite _ p inst x none = some r) : @decide p inst = true ∧ x = some r:=⟨decide_eq_true (iN_ h).1,(iN_ h).2⟩
def Bt (n m : Nat) : Array Bool:=⟨(List.range n).map fun i => m.testBit i⟩
theorem Z_ {p : Prop} (h : p) : Aside0 p:=⟨h⟩
theorem Lb_ {P : Prop} (h : P:=by repeat (first | (with_reducible first | exact HB.out | apply lA1_ | apply lN_ | apply lD_ | refine lS1_ ?_ (Aside0.out (by assumption))) | exact HB.out)) : P:=h
theorem Bk_ {P Q : Prop} (a : Aside0 Q) (h : Q → P:=by intro h_;(with_reducible repeat first | apply bN_ | apply bD_ | apply bA_);exact h_) : P:=h a.out
theorem Rk_ {P Q : Prop} (a : Aside0 Q) (h : Q → P:=by intro h_;(with_reducible repeat first | apply rA_ | apply rN_ | apply rD_);exact h_) : P:=h a.out
theorem Sk_ {P Q : Prop} (a : Aside0 Q) (h : Q → P:=by intro h_;(with_reducible repeat (first | apply Kd.S_alloc | apply Kd.S_drewN | apply Kd.S_drew));exact h_) : P:=h a.out
theorem Cb_ {P Q : Prop} (a : Aside0 Q) (h : Q → P:=by intro h_;repeat (first | exact (Kd.C_below h_ HB.out) | (with_reducible refine Kd.C_alloc ?_ _) | (with_reducible refine Kd.C_drewN ?_ _) | (with_reducible refine Kd.C_drew ?_))) : P:=h a.out
theorem Rc_ {P Q : Prop} (a : Aside0 Q) (h : Q → P:=by intro h_;repeat (first | exact (Kd.R_reads' h_).2.2 | (with_reducible refine Kd.C_alloc ?_ _) | (with_reducible refine Kd.C_drewN ?_ _) | (with_reducible refine Kd.C_drew ?_))) : P:=h a.out
theorem Sc_ {P Q : Prop} (a : Aside0 Q) (h : Q → P:=by intro h_;repeat (first | exact (Kd.S_reads' h_).2.2 | (with_reducible refine Kd.C_alloc ?_ _) | (with_reducible refine Kd.C_drewN ?_ _) | (with_reducible refine Kd.C_drew ?_))) : P:=h a.out
theorem Er_ {P : Prop} (h : P:=by first | rfl | (simp [errW_none,errW_some] <;> rfl) | (simp [*,errW_none,errW_some] <;> rfl)) : P:=h
theorem Sr_ {P : Prop} (h : P:=by first | rfl | (simp;done) | (simp [*];done)) : P:=h
theorem Ol_ {P : Prop} (h : P:=by first | omega | exact Nat.le_refl _) : Aside0 P:=⟨h⟩
theorem dA_ {p : Prop} {inst : Decidable p} (h : @decide p inst = true:=by first | (with_reducible assumption) | assumption) : p:=of_decide_eq_true h
theorem cB_ {w w' : World} {p : Addr} {v : Value} (h : Aside0 (Below w.heap.size w w')) (hx : w.cell? p = some v) : w'.cell? p = some v:=(h.out.cell (World.block_lt_of_cell? w _ hx)).trans hx
section
variable {P : Program} {ops : Array Oper} {rest : List Oper} {o : Oper} {a : Act} {Q : Exit → Act → World → Prop}
theorem bx_ {W : World} (cs : Array Value) (t : TypeId) (h : ∀ g,g = W.heap.size → ∀ w1,w1.heap[g]? = some (.cells cs t (0,0)) → Below W.heap.size W w1 → wpList P ops Q rest (a.put o.dst (.pointer (some ⟨g,0,none⟩))) w1) (hgd : o.guard = none:=by rfl) (hrun : (execOp a.eval o).run P W = .ok (.value (.pointer (some ⟨W.heap.size,0,none⟩))) (W.alloc (.cells cs t (0,0))):=by first | (go_simp;done) | (go_simp;rfl)) : wpList P ops Q (o :: rest) a W :=
  Kd.event_run hgd hrun (h _ rfl _ (blk_new W _) (below_alloc (Below.refl _ _) _))
theorem pu_ {S : World → Prop} {md : Region.Mode} {ds : List Nat} {oi : Oper} {v : Value} {fuel : Nat} {l : Array Bool} {w : World} {a' : Act} (i : Nat) (N : Option Tmp) (l' : Array Bool) (hc : anyB md ops l l' i = true) (h : wpAnyLast P md ops Q S ds fuel l' a' w) (hi : ops[i]? = some oi:=by rfl) (hN : oi.dst = N:=by rfl) (hQ : ∀ c a w,Q (.panic c) (a.put oi.dst v) w → Q (.panic c) a w:=by exact fun _ _ _ h => h) (hy : Yields P ops oi v a:=by (refine Or.inl ⟨by rfl,?_⟩;intro w';go_simp;with_reducible rfl)) (ha : a.put N v = a':=by (simp only [Act.put,lA_,lZ_,lS_,i64_w,i32_w];rfl)) : wpAnyLast P md ops Q S ds (fuel + 1) l a w:=pure_ l' hi hN hc hQ hy ha h
theorem ta_ {S : World → Prop} {md : Region.Mode} {ds : List Nat} {oi : Oper} {v : Value} {fuel : Nat} {l : Array Bool} {w : World} {a' : Act} (i : Nat) (N : Option Tmp) (l' : Array Bool) (hc : takeB md ops ds l l' i = true) (hS : S w) (h : wpAnyLast P md ops Q S ds fuel l' a' w) (hi : ops[i]? = some oi:=by rfl) (hN : oi.dst = N:=by rfl) (hQ : ∀ c a w,Q (.panic c) (a.put oi.dst v) w → Q (.panic c) a w:=by exact fun _ _ _ h => h) (hy : YieldsIf P ops S oi v a:=by (refine Or.inl ⟨by rfl,?_⟩;intro w' s_;repeat (have:=And.left s_;replace s_:=And.right s_);go_simp;with_reducible rfl)) (ha : a.put N v = a':=by (simp only [Act.put,lA_,lZ_,lS_,i64_w,i32_w];rfl)) : wpAnyLast P md ops Q S ds (fuel + 1) l a w:=take_ l' hi hN hc hQ hy hS ha h
theorem gD_ {W : World} (N : Tmp) (_hN : o.dst = some N) (h : wpList P ops Q (o :: rest) a W) : wpList P ops Q (o :: rest) a W:=h
end
end Go.Proofs.YtcafikgabidphaaGreat.G
namespace Go.Proofs.YtcafikgabidphaaGreat.G
open Go.RowKit Go.Proofs.YtcafikgabidphaaGreatW.PrintWords Go.Proofs.YtcafikgabidphaaGreatW.PrintLast Go.Proofs.YtcafikgabidphaaGreatW.PrintMore
attribute [local go_sem] max2_int min2_int max_two min_two max_three min_three max_four min_four   -- for this text's walks alone
set_option linter.unusedVariables false
set_option linter.unusedSimpArgs false
def laws_szTermS.f (l0 : List (S85)) (a1 : Int) : Option (Int):=if (wrap64 (a1 - (l0.length : Int))) < 0 then (some (-1)) else (some (wrap64 (a1 - (l0.length : Int))))
set_option maxHeartbeats 8000000 in
set_option maxRecDepth 100000 in
theorem laws_szTermS.calls (A0 : Option Addr) (c0 : Nat) (l0 : List (S85)) (a1 r : Int) (w : World) (hr0 : Kd.C k85 w A0 l0.length l0) (hc0 : l0.length ≤ c0) (h : laws_szTermS.f l0 a1 = some r) :
  Calls Tryz.prog 16 #[.slice A0 l0.length c0,.int .i64 a1] w fun e w' => e = .returned (.int .i64 r) ∧ Drawn0 w w':=by
 have HR0:=Z_ hr0
 have HC0:=Z_ hc0
 clear hr0 hc0
 unfold laws_szTermS.f at h
 have H:=h
 clear h
 replace H:=iD_ H
 obtain ⟨c3b0,H⟩ | ⟨c3b0,H⟩:=H
 all_goals
  obtain rfl:=Option.some.inj H
  go_enter Tryz.func16,Tryz.ntmps16
  go_wp2
  go_ret
  exact ⟨by first | rfl | (simp;done) | (simp [*];done),by repeat (first | exact Drawn0.refl _ | apply Drawn0.step)⟩
def laws_szTalkS.f (l0 : List (S142)) (a1 : Int) : Option (Int):=if (wrap64 (a1 - (l0.length : Int))) < 0 then (some (-1)) else (some (wrap64 (a1 - (l0.length : Int))))
set_option maxHeartbeats 8000000 in
set_option maxRecDepth 100000 in
theorem laws_szTalkS.calls (A0 : Option Addr) (c0 : Nat) (l0 : List (S142)) (a1 r : Int) (w : World) (hr0 : Kd.C k142 w A0 l0.length l0) (hc0 : l0.length ≤ c0) (h : laws_szTalkS.f l0 a1 = some r) :
  Calls Tryz.prog 73 #[.slice A0 l0.length c0,.int .i64 a1] w fun e w' => e = .returned (.int .i64 r) ∧ Drawn0 w w':=by
 have HR0:=Z_ hr0
 have HC0:=Z_ hc0
 clear hr0 hc0
 unfold laws_szTalkS.f at h
 have H:=h
 clear h
 replace H:=iD_ H
 obtain ⟨c3b0,H⟩ | ⟨c3b0,H⟩:=H
 all_goals
  obtain rfl:=Option.some.inj H
  go_enter Tryz.func73,Tryz.ntmps73
  go_wp2
  go_ret
  exact ⟨by first | rfl | (simp;done) | (simp [*];done),by repeat (first | exact Drawn0.refl _ | apply Drawn0.step)⟩
def laws_szGate.f (a0_0 a0_1 : Int) (l0_2 : List (S142)) (a1 : Int) : Option (Int):=(laws_szTalkS.f l0_2 a1).bind fun t102 => (if t102 < 0 then (some (-1)) else (some t102))
set_option maxHeartbeats 8000000 in
set_option maxRecDepth 100000 in
theorem laws_szGate.calls (a0_0 a0_1 : Int) (A0_2 : Option Addr) (c0_2 : Nat) (l0_2 : List (S142)) (a1 r : Int) (w : World) (hr0_2 : Kd.C k142 w A0_2 l0_2.length l0_2) (hc0_2 : l0_2.length ≤ c0_2) (h : laws_szGate.f a0_0 a0_1 l0_2 a1 = some r) :
  Calls Tryz.prog 41 #[.agg #[.int .i64 a0_0,.int .i64 a0_1,.slice A0_2 l0_2.length c0_2],.int .i64 a1] w fun e w' => e = .returned (.int .i64 r) ∧ Below w.heap.size w w':=by
 have hu71:=Tryz.underlying71
 have HR0_2:=Z_ hr0_2
 have HC0_2:=Z_ hc0_2
 clear hr0_2 hc0_2
 have HB:=Z_ (Below.refl w.heap.size w)
 unfold laws_szGate.f at h
 have H:=h
 clear h
 replace H:=bS_ H
 obtain ⟨t102,A3,H⟩:=H
 replace H:=iD_ H
 obtain ⟨c4b0,H⟩ | ⟨c4b0,H⟩:=H
 all_goals
  obtain rfl:=Option.some.inj H
  go_enter Tryz.func41,Tryz.ntmps41
  go_wp2_with (first | ((with_reducible refine gD_ 2 rfl ?_);refine bx_ #[.int .i64 a0_0,.int .i64 a0_1,.slice A0_2 l0_2.length c0_2] 71 ?_;intro gb101 hg w7 hbox hb;have BK101:=Z_ hbox;have GE101:=Z_ ((by rw [hg];exact (below_size Lb_) : w.heap.size ≤ gb101));replace HB:=Z_ (lP_ Lb_ hb);clear hb hbox hg;obtain ⟨_,_,_,_,_,_⟩:=bc3 BK101.out) | ((with_reducible refine gate_callee (f:=73) rfl ?_);refine goesA_ (some 8) rfl rfl Tryz.func73 (by kernel_rfl) rfl #[.slice A0_2 l0_2.length c0_2,.int .i64 a1] rfl ?_;(with_reducible refine (laws_szTalkS.calls _ _ l0_2 a1 t102 _ ?side1 ?side2 A3.out).mono ?_);(case side1 => exact Cb_ HR0_2);(case side2 => exact HC0_2.out);rintro e w' ⟨rfl,⟨nd,rfl⟩⟩;refine ⟨_,rfl,?_⟩))
  go_ret
  exact ⟨Er_,Lb_⟩
def laws_szGateS.l0 : Nat → List (S71) → Int → Int → Option (Int)
 | 0,_,_,_ => none
 | k + 1,x0,x1,x5 => if x5 < (x0.length : Int) then (if 0 ≤ x5 then ((laws_szGate.f ((rd_T71 x0 x5).f0) ((rd_T71 x0 x5).f1) ((rd_T71 x0 x5).f2) x1).bind fun t104 => (if t104 < 0 then (some (-1)) else (laws_szGateS.l0 k x0 t104 (wrap64 (x5 + 1))))) else (none)) else (some x1)
def laws_szGateS.f (k : Nat) (l0 : List (S71)) (a1 : Int) : Option (Int):=if (wrap64 (a1 - (l0.length : Int))) < 0 then (some (-1)) else (laws_szGateS.l0 k l0 (wrap64 (a1 - (l0.length : Int))) 0)
set_option maxHeartbeats 8000000 in
set_option maxRecDepth 100000 in
theorem laws_szGateS.calls (k : Nat) (A0 : Option Addr) (c0 : Nat) (l0 : List (S71)) (a1 r : Int) (w : World) (hr0 : Kd.C k71 w A0 l0.length l0) (hc0 : l0.length ≤ c0) (h : laws_szGateS.f k l0 a1 = some r) :
  Calls Tryz.prog 17 #[.slice A0 l0.length c0,.int .i64 a1] w fun e w' => e = .returned (.int .i64 r) ∧ Below w.heap.size w w':=by
 have hu71:=Tryz.underlying71
 have a0:=Z_ hr0
 have a3:=Z_ hc0
 clear hr0 hc0
 have HB:=Z_ (Below.refl w.heap.size w)
 unfold laws_szGateS.f at h
 have H:=h
 clear h
 replace H:=iC_ H
 obtain ⟨c3,H⟩ | ⟨c3,H⟩:=H
 ·have c3b0 : decide ((wrap64 (a1 - (l0.length : Int))) < 0) = true:=decide_eq_true c3
  clear c3
  obtain rfl:=Option.some.inj H
  go_enter Tryz.func17,Tryz.ntmps17
  go_wp2
  go_ret
  exact ⟨Er_,Lb_⟩
 have c3b0 : decide ((wrap64 (a1 - (l0.length : Int))) < 0) = false:=decide_eq_false c3
 clear c3
 have H':=Z_ H
 clear H
 go_enter Tryz.func17,Tryz.ntmps17
 go_wp2
 go_loopg [1,5] k (fun kq v1 v5 w' => ∃ (x1_1 : Int) (x5_1 : Int),v1 = .int .i64 x1_1 ∧ v5 = .int .i64 x5_1 ∧ Aside0 (laws_szGateS.l0 kq l0 x1_1 x5_1 = some r) ∧ Aside0 (kq ≤ k) ∧ Aside0 (Below w.heap.size w w'))
 case atStart => exact ⟨(wrap64 (a1 - (l0.length : Int))),(0),Sr_,Sr_,H',⟨Nat.le_refl _⟩,⟨Lb_⟩⟩
 case round =>
  clear H'
  try clear c1
  try clear p2
  try clear c3
  try clear c3b0
  obtain ⟨x1_1,x5_1,rfl,rfl,HA,HK1,HB⟩:=hrel
  cases gk with
  | zero => exact absurd HA.out (by simp [laws_szGateS.l0])
  | succ k1 =>
   have H:=HA.out
   clear HA
   simp only [laws_szGateS.l0] at H
   replace H:=iD_ H
   obtain ⟨c4b0,H⟩ | ⟨c4b0,H⟩:=H
   rotate_left
   ·obtain rfl:=Option.some.inj H
    go_wp2
    go_ret
    exact ⟨Er_,Lb_⟩
   rotate_right
   replace H:=iM_ H
   obtain ⟨c5b0,H⟩:=H
   replace H:=bS_ H
   obtain ⟨t104,A6,H⟩:=H
   replace H:=iD_ H
   obtain ⟨c7b0,H⟩ | ⟨c7b0,H⟩:=H
   ·obtain rfl:=Option.some.inj H
    have p103 : 0 ≤ (x5_1 : Int):=dA_
    have q103 : x5_1 < (l0.length : Int):=dA_
    obtain ⟨ad103,A103_2,c103_2,e103,hx103_0,hx103_1,hx103_2,hl103_2,hi103_2⟩:=at_T71 a0.out x5_1 p103 q103
    cases e103
    replace hx103_0:=cB_ HB hx103_0
    replace hx103_1:=cB_ HB hx103_1
    replace hx103_2:=cB_ HB hx103_2
    have HR103_2:=Z_ hi103_2
    have HC103_2:=Z_ hl103_2
    clear hi103_2 hl103_2
    replace p103:=eq_true p103
    replace q103:=eq_true q103
    go_wp2_with (first | ((with_reducible refine gate_callee (f:=41) rfl ?_);refine goesA_ (some 23) rfl rfl Tryz.func41 (by kernel_rfl) rfl #[.agg #[.int .i64 ((rd_T71 l0 x5_1).f0),.int .i64 ((rd_T71 l0 x5_1).f1),.slice A103_2 ((rd_T71 l0 x5_1).f2).length c103_2],.int .i64 x1_1] rfl ?_;(with_reducible refine (laws_szGate.calls ((rd_T71 l0 x5_1).f0) ((rd_T71 l0 x5_1).f1) _ _ ((rd_T71 l0 x5_1).f2) x1_1 t104 _ ?side1 ?side2 A6.out).mono ?_);(case side1 => exact Cb_ HR103_2);(case side2 => exact HC103_2.out);rintro e w8 ⟨rfl,hb⟩;refine ⟨_,rfl,?_⟩;replace HB:=Z_ (lP_ HB.out hb);(try clear hb)))
    go_ret
    exact ⟨Er_,Lb_⟩
   have H':=Z_ H
   clear H
   have p103 : 0 ≤ (x5_1 : Int):=dA_
   have q103 : x5_1 < (l0.length : Int):=dA_
   obtain ⟨ad103,A103_2,c103_2,e103,hx103_0,hx103_1,hx103_2,hl103_2,hi103_2⟩:=at_T71 a0.out x5_1 p103 q103
   cases e103
   replace hx103_0:=cB_ HB hx103_0
   replace hx103_1:=cB_ HB hx103_1
   replace hx103_2:=cB_ HB hx103_2
   have HR103_2:=Z_ hi103_2
   have HC103_2:=Z_ hl103_2
   clear hi103_2 hl103_2
   replace p103:=eq_true p103
   replace q103:=eq_true q103
   go_wp2_with (first | ((with_reducible refine gate_callee (f:=41) rfl ?_);refine goesA_ (some 23) rfl rfl Tryz.func41 (by kernel_rfl) rfl #[.agg #[.int .i64 ((rd_T71 l0 x5_1).f0),.int .i64 ((rd_T71 l0 x5_1).f1),.slice A103_2 ((rd_T71 l0 x5_1).f2).length c103_2],.int .i64 x1_1] rfl ?_;(with_reducible refine (laws_szGate.calls ((rd_T71 l0 x5_1).f0) ((rd_T71 l0 x5_1).f1) _ _ ((rd_T71 l0 x5_1).f2) x1_1 t104 _ ?side1 ?side2 A6.out).mono ?_);(case side1 => exact Cb_ HR103_2);(case side2 => exact HC103_2.out);rintro e w9 ⟨rfl,hb⟩;refine ⟨_,rfl,?_⟩;replace HB:=Z_ (lP_ Lb_ hb);(try clear hb)))
   go_roundg k1
   case measure => have:=HK1.out;omega
   case rel => exact ⟨(t104),(wrap64 (x5_1 + 1)),Sr_,Sr_,H',⟨by have:=HK1.out;omega⟩,⟨Lb_⟩⟩
def laws_szInt64S.f (l0 : List Int) (a1 : Int) : Option (Int):=if (wrap64 (a1 - (l0.length : Int))) < 0 then (some (-1)) else (some (wrap64 (a1 - (l0.length : Int))))
set_option maxHeartbeats 8000000 in
set_option maxRecDepth 100000 in
theorem laws_szInt64S.calls (A0 : Option Addr) (c0 : Nat) (l0 : List Int) (a1 r : Int) (w : World) (hr0 : Kd.C (Kd.int .i64) w A0 l0.length l0) (hc0 : l0.length ≤ c0) (h : laws_szInt64S.f l0 a1 = some r) :
  Calls Tryz.prog 18 #[.slice A0 l0.length c0,.int .i64 a1] w fun e w' => e = .returned (.int .i64 r) ∧ Drawn0 w w':=by
 have HR0:=Z_ hr0
 have HC0:=Z_ hc0
 clear hr0 hc0
 unfold laws_szInt64S.f at h
 have H:=h
 clear h
 replace H:=iD_ H
 obtain ⟨c3b0,H⟩ | ⟨c3b0,H⟩:=H
 all_goals
  obtain rfl:=Option.some.inj H
  go_enter Tryz.func18,Tryz.ntmps18
  go_wp2
  go_ret
  exact ⟨by first | rfl | (simp;done) | (simp [*];done),by repeat (first | exact Drawn0.refl _ | apply Drawn0.step)⟩
def laws_szGivenS.f (l0 : List (S90)) (a1 : Int) : Option (Int):=if (wrap64 (a1 - (l0.length : Int))) < 0 then (some (-1)) else (some (wrap64 (a1 - (l0.length : Int))))
set_option maxHeartbeats 8000000 in
set_option maxRecDepth 100000 in
theorem laws_szGivenS.calls (A0 : Option Addr) (c0 : Nat) (l0 : List (S90)) (a1 r : Int) (w : World) (hr0 : Kd.C k90 w A0 l0.length l0) (hc0 : l0.length ≤ c0) (h : laws_szGivenS.f l0 a1 = some r) :
  Calls Tryz.prog 19 #[.slice A0 l0.length c0,.int .i64 a1] w fun e w' => e = .returned (.int .i64 r) ∧ Drawn0 w w':=by
 have HR0:=Z_ hr0
 have HC0:=Z_ hc0
 clear hr0 hc0
 unfold laws_szGivenS.f at h
 have H:=h
 clear h
 replace H:=iD_ H
 obtain ⟨c3b0,H⟩ | ⟨c3b0,H⟩:=H
 all_goals
  obtain rfl:=Option.some.inj H
  go_enter Tryz.func19,Tryz.ntmps19
  go_wp2
  go_ret
  exact ⟨by first | rfl | (simp;done) | (simp [*];done),by repeat (first | exact Drawn0.refl _ | apply Drawn0.step)⟩
def laws_szNet.f (k : Nat) (l0_0 : List (S85)) (l0_1 : List (S71)) (l0_2 l0_3 : List Int) (l0_4 l0_5 : List (S90)) (a1 : Int) : Option (Int):=(laws_szTermS.f l0_0 a1).bind fun t106 => (if t106 < 0 then (some (-1)) else ((laws_szGateS.f k l0_1 t106).bind fun t107 => (if t107 < 0 then (some (-1)) else ((laws_szInt64S.f l0_2 t107).bind fun t108 => (if t108 < 0 then (some (-1)) else ((laws_szInt64S.f l0_3 t108).bind fun t109 => (if t109 < 0 then (some (-1)) else ((laws_szGivenS.f l0_4 t109).bind fun t110 => (if t110 < 0 then (some (-1)) else ((laws_szGivenS.f l0_5 t110).bind fun t111 => (if t111 < 0 then (some (-1)) else (some t111))))))))))))
set_option maxHeartbeats 8000000 in
set_option maxRecDepth 100000 in
theorem laws_szNet.calls (k : Nat) (A0_0 : Option Addr) (c0_0 : Nat) (l0_0 : List (S85)) (A0_1 : Option Addr) (c0_1 : Nat) (l0_1 : List (S71)) (A0_2 : Option Addr) (c0_2 : Nat) (l0_2 : List Int) (A0_3 : Option Addr) (c0_3 : Nat) (l0_3 : List Int) (A0_4 : Option Addr) (c0_4 : Nat) (l0_4 : List (S90)) (A0_5 : Option Addr) (c0_5 : Nat) (l0_5 : List (S90)) (a1 r : Int) (w : World) (hr0_0 : Kd.C k85 w A0_0 l0_0.length l0_0) (hc0_0 : l0_0.length ≤ c0_0) (hr0_1 : Kd.C k71 w A0_1 l0_1.length l0_1) (hc0_1 : l0_1.length ≤ c0_1) (hr0_2 : Kd.C (Kd.int .i64) w A0_2 l0_2.length l0_2) (hc0_2 : l0_2.length ≤ c0_2) (hr0_3 : Kd.C (Kd.int .i64) w A0_3 l0_3.length l0_3) (hc0_3 : l0_3.length ≤ c0_3) (hr0_4 : Kd.C k90 w A0_4 l0_4.length l0_4) (hc0_4 : l0_4.length ≤ c0_4) (hr0_5 : Kd.C k90 w A0_5 l0_5.length l0_5) (hc0_5 : l0_5.length ≤ c0_5) (h : laws_szNet.f k l0_0 l0_1 l0_2 l0_3 l0_4 l0_5 a1 = some r) :
  Calls Tryz.prog 5 #[.agg #[.slice A0_0 l0_0.length c0_0,.slice A0_1 l0_1.length c0_1,.slice A0_2 l0_2.length c0_2,.slice A0_3 l0_3.length c0_3,.slice A0_4 l0_4.length c0_4,.slice A0_5 l0_5.length c0_5],.int .i64 a1] w fun e w' => e = .returned (.int .i64 r) ∧ Below w.heap.size w w':=by
 have hu27:=Tryz.underlying27
 have HR0_0:=Z_ hr0_0
 have HC0_0:=Z_ hc0_0
 clear hr0_0 hc0_0
 have HR0_1:=Z_ hr0_1
 have HC0_1:=Z_ hc0_1
 clear hr0_1 hc0_1
 have HR0_2:=Z_ hr0_2
 have HC0_2:=Z_ hc0_2
 clear hr0_2 hc0_2
 have HR0_3:=Z_ hr0_3
 have HC0_3:=Z_ hc0_3
 clear hr0_3 hc0_3
 have HR0_4:=Z_ hr0_4
 have HC0_4:=Z_ hc0_4
 clear hr0_4 hc0_4
 have HR0_5:=Z_ hr0_5
 have HC0_5:=Z_ hc0_5
 clear hr0_5 hc0_5
 have HB:=Z_ (Below.refl w.heap.size w)
 unfold laws_szNet.f at h
 have H:=h
 clear h
 replace H:=bS_ H
 obtain ⟨t106,A3,H⟩:=H
 replace H:=iD_ H
 obtain ⟨c4b0,H⟩ | ⟨c4b0,H⟩:=H
 rotate_left
 replace H:=bS_ H
 obtain ⟨t107,A7,H⟩:=H
 replace H:=iD_ H
 obtain ⟨c8b0,H⟩ | ⟨c8b0,H⟩:=H
 rotate_left
 replace H:=bS_ H
 obtain ⟨t108,a5,H⟩:=H
 replace H:=iD_ H
 obtain ⟨c13b0,H⟩ | ⟨c13b0,H⟩:=H
 rotate_left
 replace H:=bS_ H
 obtain ⟨t109,a6,H⟩:=H
 replace H:=iD_ H
 obtain ⟨c19b0,H⟩ | ⟨c19b0,H⟩:=H
 rotate_left
 replace H:=bS_ H
 obtain ⟨t110,aa,H⟩:=H
 replace H:=iD_ H
 obtain ⟨c25b0,H⟩ | ⟨c25b0,H⟩:=H
 rotate_left
 replace H:=bS_ H
 obtain ⟨t111,a4,H⟩:=H
 replace H:=iD_ H
 obtain ⟨c31b0,H⟩ | ⟨c31b0,H⟩:=H
 all_goals
  obtain rfl:=Option.some.inj H
  go_enter Tryz.func5,Tryz.ntmps5
  go_wp2_with (first | ((with_reducible refine gD_ 2 rfl ?_);refine bx_ #[.slice A0_0 l0_0.length c0_0,.slice A0_1 l0_1.length c0_1,.slice A0_2 l0_2.length c0_2,.slice A0_3 l0_3.length c0_3,.slice A0_4 l0_4.length c0_4,.slice A0_5 l0_5.length c0_5] 27 ?_;intro a3 hg w14 hbox hb;have a2:=Z_ hbox;have a0:=Z_ ((by rw [hg];exact (below_size Lb_) : w.heap.size ≤ a3));replace HB:=Z_ (lP_ Lb_ hb);clear hb hbox hg;obtain ⟨_,_,_,_,_,_,_,_,_,_,_,_⟩:=bc6 a2.out) | ((with_reducible refine gate_callee (f:=16) rfl ?_);refine goesA_ (some 8) rfl rfl Tryz.func16 (by kernel_rfl) rfl #[.slice A0_0 l0_0.length c0_0,.int .i64 a1] rfl ?_;(with_reducible refine (laws_szTermS.calls _ _ l0_0 a1 t106 _ ?side1 ?side2 A3.out).mono ?_);(case side1 => exact Cb_ HR0_0);(case side2 => exact HC0_0.out);rintro e w' ⟨rfl,⟨nd,rfl⟩⟩;refine ⟨_,rfl,?_⟩) | ((with_reducible refine gate_callee (f:=17) rfl ?_);refine goesA_ (some 14) rfl rfl Tryz.func17 (by kernel_rfl) rfl #[.slice A0_1 l0_1.length c0_1,.int .i64 t106] rfl ?_;(with_reducible refine (laws_szGateS.calls k _ _ l0_1 t106 t107 _ ?side1 ?side2 A7.out).mono ?_);(case side1 => exact Cb_ HR0_1);(case side2 => exact HC0_1.out);rintro e w16 ⟨rfl,hb⟩;refine ⟨_,rfl,?_⟩;replace a2:=Z_ (bB_ (g:=a3) (o:=.cells #[.slice A0_0 l0_0.length c0_0,.slice A0_1 l0_1.length c0_1,.slice A0_2 l0_2.length c0_2,.slice A0_3 l0_3.length c0_3,.slice A0_4 l0_4.length c0_4,.slice A0_5 l0_5.length c0_5] 27 (0,0)) (Bk_ a2) hb);replace HB:=Z_ (lP_ Lb_ hb);(try clear hb);obtain ⟨_,_,_,_,_,_,_,_,_,_,_,_⟩:=bc6 a2.out) | ((with_reducible refine gate_callee (f:=18) rfl ?_);refine goesA_ (some 20) rfl rfl Tryz.func18 (by kernel_rfl) rfl #[.slice A0_2 l0_2.length c0_2,.int .i64 t107] rfl ?_;(with_reducible refine (laws_szInt64S.calls _ _ l0_2 t107 t108 _ ?side1 ?side2 a5.out).mono ?_);(case side1 => exact Cb_ HR0_2);(case side2 => exact HC0_2.out);rintro e w' ⟨rfl,⟨nd,rfl⟩⟩;refine ⟨_,rfl,?_⟩) | ((with_reducible refine gate_callee (f:=18) rfl ?_);refine goesA_ (some 26) rfl rfl Tryz.func18 (by kernel_rfl) rfl #[.slice A0_3 l0_3.length c0_3,.int .i64 t108] rfl ?_;(with_reducible refine (laws_szInt64S.calls _ _ l0_3 t108 t109 _ ?side1 ?side2 a6.out).mono ?_);(case side1 => exact Cb_ HR0_3);(case side2 => exact HC0_3.out);rintro e w' ⟨rfl,⟨nd,rfl⟩⟩;refine ⟨_,rfl,?_⟩) | ((with_reducible refine gate_callee (f:=19) rfl ?_);refine goesA_ (some 32) rfl rfl Tryz.func19 (by kernel_rfl) rfl #[.slice A0_4 l0_4.length c0_4,.int .i64 t109] rfl ?_;(with_reducible refine (laws_szGivenS.calls _ _ l0_4 t109 t110 _ ?side1 ?side2 aa.out).mono ?_);(case side1 => exact Cb_ HR0_4);(case side2 => exact HC0_4.out);rintro e w' ⟨rfl,⟨nd,rfl⟩⟩;refine ⟨_,rfl,?_⟩) | ((with_reducible refine gate_callee (f:=19) rfl ?_);refine goesA_ (some 38) rfl rfl Tryz.func19 (by kernel_rfl) rfl #[.slice A0_5 l0_5.length c0_5,.int .i64 t110] rfl ?_;(with_reducible refine (laws_szGivenS.calls _ _ l0_5 t110 t111 _ ?side1 ?side2 a4.out).mono ?_);(case side1 => exact Cb_ HR0_5);(case side2 => exact HC0_5.out);rintro e w' ⟨rfl,⟨nd,rfl⟩⟩;refine ⟨_,rfl,?_⟩))
  go_ret
  exact ⟨Er_,Lb_⟩
def laws_toTerm.f (a0_0 a0_1 a0_2 a0_3 : Int) : Option (Int × Int × Int × Int):=some (a0_0,a0_1,a0_2,a0_3)
set_option maxHeartbeats 8000000 in
set_option maxRecDepth 100000 in
theorem laws_toTerm.calls (a0_0 a0_1 a0_2 a0_3 r1 r2 r3 r4 : Int) (w : World) (h : laws_toTerm.f a0_0 a0_1 a0_2 a0_3 = some (r1,r2,r3,r4)) :
  Calls Tryz.prog 49 #[.agg #[.int .i64 a0_0,.int .i64 a0_1,.int .i64 a0_2,.int .i64 a0_3]] w fun e w' => e = .returned (.agg #[.int .i64 r1,.int .i64 r2,.int .i64 r3,.int .i64 r4]) ∧ Below w.heap.size w w':=by
 have hu85:=Tryz.underlying85
 have hu83:=Tryz.underlying83
 have HB:=Z_ (Below.refl w.heap.size w)
 unfold laws_toTerm.f at h
 have H:=h
 clear h
 simp only [Option.some.injEq,Prod.mk.injEq] at H
 obtain ⟨rfl,rfl,rfl,rfl⟩:=H
 go_enter Tryz.func49,Tryz.ntmps49
 go_wp2_with (first | ((with_reducible refine gD_ 1 rfl ?_);refine bx_ #[.int .i64 a0_0,.int .i64 a0_1,.int .i64 a0_2,.int .i64 a0_3] 85 ?_;intro gb266 hg w2 hbox hb;have BK266:=Z_ hbox;have GE266:=Z_ ((by rw [hg];exact (below_size HB.out) : w.heap.size ≤ gb266));replace HB:=Z_ (lP_ HB.out hb);clear hb hbox hg) | ((with_reducible refine gD_ 2 rfl ?_);refine bx_ #[.int .i64 0,.int .i64 0,.int .i64 0,.int .i64 0] 83 ?_;intro gb267 hg w3 hbox hb;have BK267:=Z_ hbox;have GE267:=Z_ ((by rw [hg];exact (below_size HB.out) : w.heap.size ≤ gb267));replace HB:=Z_ (lP_ HB.out hb);have NB266_267:=Z_ ((by rw [hg];exact Nat.ne_of_lt (blk_lt BK266.out) : gb266 ≠ gb267));replace BK266:=Z_ (bB_ BK266.out hb);have NB267_266:=Z_ NB266_267.out.symm;clear hb hbox hg) | ((with_reducible refine gD_ 3 rfl ?_);refine bx_ #[.int .i64 0,.int .i64 0,.int .i64 0,.int .i64 0] 83 ?_;intro gb268 hg w4 hbox hb;have BK268:=Z_ hbox;have GE268:=Z_ ((by rw [hg];exact (below_size HB.out) : w.heap.size ≤ gb268));replace HB:=Z_ (lP_ HB.out hb);have NB266_268:=Z_ ((by rw [hg];exact Nat.ne_of_lt (blk_lt BK266.out) : gb266 ≠ gb268));replace BK266:=Z_ (bB_ BK266.out hb);have NB268_266:=Z_ NB266_268.out.symm;have NB267_268:=Z_ ((by rw [hg];exact Nat.ne_of_lt (blk_lt BK267.out) : gb267 ≠ gb268));replace BK267:=Z_ (bB_ BK267.out hb);have NB268_267:=Z_ NB267_268.out.symm;clear hb hbox hg;have hnb5:=NB266_267.out;have hnc5:=NB267_266.out;have hnb6:=NB266_268.out;have hnc6:=NB268_266.out;obtain ⟨_,_,_,_,_,_,_,_⟩:=bc4 BK266.out;have hnb8:=NB268_267.out;have hnc8:=NB267_268.out;obtain ⟨_,_,_,_,_,_,_,_⟩:=bc4 BK268.out;obtain ⟨_,_,_,_,_,_,_,_⟩:=bc4 BK267.out))
 refine bodyPost_ret (results_cell_row rfl _ _ gb267 83 #[.int .i64 a0_0,.int .i64 a0_1,.int .i64 a0_2,.int .i64 a0_3] (0,0) _ rfl (by (with_reducible repeat first | apply bN_ | apply bD_ | apply bA_);apply fill4;(iterate 4 ((with_reducible repeat first | apply bN_ | apply bD_ | apply bA_);refine bF_ ?_ NB267_268.out _));(with_reducible repeat first | apply bN_ | apply bD_ | apply bA_);exact BK267.out) Tryz.underlying83 rfl (by kernel_rfl)) rfl ?_
 exact ⟨Er_,Lb_⟩
def laws_toTermS.l0 : Nat → List (S85) → List (S83) → Int → Option ((List (S83)))
 | 0,_,_,_ => none
 | k + 1,x0,x3,x4 => if x4 < (x0.length : Int) then (if 0 ≤ x4 then ((laws_toTerm.f ((rd_T85 x0 x4).f0) ((rd_T85 x0 x4).f1) ((rd_T85 x0 x4).f2) ((rd_T85 x0 x4).f3)).bind fun bt273 => (if x4 < (x3.length : Int) then (laws_toTermS.l0 k x0 (x3.set (x4 : Int).toNat (⟨bt273.1,bt273.2.1,bt273.2.2.1,bt273.2.2.2⟩ : S83)) (wrap64 (x4 + 1))) else (none))) else (none)) else (some x3)
def laws_toTermS.f (k : Nat) (l0 : List (S85)) : Option ((List (S83))):=if 0 ≤ (l0.length : Int) then (if ((l0.length : Int) : Int).toNat ≤ 8796093022208 then (laws_toTermS.l0 k l0 (List.replicate ((l0.length : Int) : Int).toNat z83) 0) else (none)) else (none)
set_option maxHeartbeats 8000000 in
set_option maxRecDepth 100000 in
theorem laws_toTermS.calls (k : Nat) (A0 : Option Addr) (c0 : Nat) (l0 : List (S85)) (r : List (S83)) (w : World) (hr0 : Kd.C k85 w A0 l0.length l0) (hc0 : l0.length ≤ c0) (h : laws_toTermS.f k l0 = some r) :
  Calls Tryz.prog 23 #[.slice A0 l0.length c0] w fun e w' => ∃ v0_ : Value,e = .returned (v0_) ∧ Kd.R k83 83 w' w.heap.size (fun _ => True) v0_ r ∧ Below w.heap.size w w':=by
 have hu85:=Tryz.underlying85
 have hu83:=Tryz.underlying83
 have a8:=Z_ hr0
 have a9:=Z_ hc0
 clear hr0 hc0
 have HB:=Z_ (Below.refl w.heap.size w)
 unfold laws_toTermS.f at h
 have H:=h
 clear h
 replace H:=iN_ H
 obtain ⟨c2,H⟩:=H
 have c2b0:=eq_true c2
 have c2b1 : decide (0 ≤ (l0.length : Int)) = true:=decide_eq_true c2
 clear c2
 replace H:=iN_ H
 obtain ⟨c3,H⟩:=H
 have c3b0:=eq_true c3
 have c3b1 : decide (((l0.length : Int) : Int).toNat ≤ 8796093022208) = true:=decide_eq_true c3
 clear c3
 obtain ⟨y269,hy269⟩ : ∃ y_ : List (S83),y_ = (List.replicate ((l0.length : Int) : Int).toNat z83):=⟨_,rfl⟩
 replace H : (laws_toTermS.l0 k l0 y269 0) = some r:=by first | (rw [hy269];with_reducible exact H) | (have H2_:=(Option.bind_some _ _).symm.trans H;rw [hy269];with_reducible exact H2_) | (have H2_:=(Option.bind_some _ _).symm.trans H;with_reducible exact H2_) | with_reducible exact H | (rw [hy269];exact H) | exact H
 have a2:=Z_ hy269
 clear hy269
 have H':=Z_ H
 clear H
 go_enter Tryz.func23,Tryz.ntmps23
 go_wp2_with (first | ((with_reducible refine gD_ 7 rfl ?_);refine Kd.R_make k83 _ 83 rfl (N:=7) rfl 30 _ _ rfl (l0.length : Int) rfl rfl Tryz.underlying30 (.agg #[(.int .i64 0),(.int .i64 0),(.int .i64 0),(.int .i64 0)]) 32 info83 rfl (by decide) (by omega) z83 (ok:=fun _ => True) (okp:=fun _ => True) (k83_mkM _ _ _ z83 ) (fun _ hk => hk) trivial (dA_) (Nat.le_trans (Nat.mul_le_mul_right _ (dA_ : (l0.length : Int).toNat ≤ 8796093022208)) (by omega)) (Below.refl _ _) (Nat.le_refl _) ?_;intro v270 w4 ho5 hb hg_ hnew_;clear hg_ hnew_;(first | rw [← a2.out] at ho5 | (simp only [Int.reduceToNat] at ho5;rw [← a2.out] at ho5));have a5:=Z_ (Kd.R_lower ho5 (below_size HB.out));replace HB:=Z_ (lP_ HB.out hb);clear hb ho5))
 go_loopg [4] k (fun kq v4 w' => ∃ (x3_1 : List (S83)) (x4_1 : Int),v4 = .int .i64 x4_1 ∧ Aside0 (laws_toTermS.l0 kq l0 x3_1 x4_1 = some r) ∧ Aside0 (kq ≤ k) ∧ Aside0 (Kd.R k83 83 w' w.heap.size (fun _ => True) v270 x3_1) ∧ Aside0 (Below w.heap.size w w'))
 case atStart => exact ⟨(y269),(0),Sr_,H',⟨Nat.le_refl _⟩,⟨Rk_ a5⟩,⟨Lb_⟩⟩
 case round =>
  clear H'
  try clear c2
  try clear c2b0
  try clear c2b1
  try clear p2
  try clear c3
  try clear c3b0
  try clear c3b1
  obtain ⟨x3_1,x4_1,rfl,HA,HK1,a0,HB⟩:=hrel
  cases gk with
  | zero => exact absurd HA.out (by simp [laws_toTermS.l0])
  | succ k1 =>
   have H:=HA.out
   clear HA
   simp only [laws_toTermS.l0] at H
   replace H:=iD_ H
   obtain ⟨c6b0,H⟩ | ⟨c6b0,H⟩:=H
   rotate_left
   ·obtain rfl:=Option.some.inj H
    go_wp2
    go_ret
    exact ⟨_,Er_,Rk_ a0,Lb_⟩
   rotate_right
   replace H:=iM_ H
   obtain ⟨c7b0,H⟩:=H
   replace H:=bS_ H
   obtain ⟨⟨t273,t274,t275,t276⟩,A8,H⟩:=H
   try dsimp only at H
   replace H:=iM_ H
   obtain ⟨c9b0,H⟩:=H
   obtain ⟨y277,hy277⟩ : ∃ y_ : List (S83),y_ = (x3_1.set (x4_1 : Int).toNat (⟨t273,t274,t275,t276⟩ : S83)):=⟨_,rfl⟩
   replace H : (laws_toTermS.l0 k1 l0 y277 (wrap64 (x4_1 + 1))) = some r:=by first | (rw [hy277];with_reducible exact H) | (have H2_:=(Option.bind_some _ _).symm.trans H;rw [hy277];with_reducible exact H2_) | (have H2_:=(Option.bind_some _ _).symm.trans H;with_reducible exact H2_) | with_reducible exact H | (rw [hy277];exact H) | exact H
   have a6:=Z_ hy277
   clear hy277
   have H':=Z_ H
   clear H
   have p272 : 0 ≤ (x4_1 : Int):=dA_
   have q272 : x4_1 < (l0.length : Int):=dA_
   obtain ⟨ad272,e272,hx272_0,hx272_1,hx272_2,hx272_3⟩:=at_T85 a8.out x4_1 p272 q272
   cases e272
   replace hx272_0:=cB_ HB hx272_0
   replace hx272_1:=cB_ HB hx272_1
   replace hx272_2:=cB_ HB hx272_2
   replace hx272_3:=cB_ HB hx272_3
   replace p272:=eq_true p272
   replace q272:=eq_true q272
   go_wp2_with (first | ((with_reducible refine gate_callee (f:=49) rfl ?_);refine goesA_ (some 20) rfl rfl Tryz.func49 (by kernel_rfl) rfl #[.agg #[.int .i64 ((rd_T85 l0 x4_1).f0),.int .i64 ((rd_T85 l0 x4_1).f1),.int .i64 ((rd_T85 l0 x4_1).f2),.int .i64 ((rd_T85 l0 x4_1).f3)]] rfl ?_;(with_reducible refine (laws_toTerm.calls ((rd_T85 l0 x4_1).f0) ((rd_T85 l0 x4_1).f1) ((rd_T85 l0 x4_1).f2) ((rd_T85 l0 x4_1).f3) t273 t274 t275 t276 _ A8.out).mono ?_);rintro e w11 ⟨rfl,hb⟩;refine ⟨_,rfl,?_⟩;replace a0:=Z_ (Kd.R_below a0.out hb);replace HB:=Z_ (lP_ HB.out hb);(try clear hb);have p10 : 0 ≤ (x4_1 : Int):=dA_;have q10 : (x4_1 : Int) < ((x3_1.length : Int) : Int):=dA_;obtain ⟨go10,a3,eo10,a4,gl10,cl10,HG10⟩:=Kd.R_form a0.out (by omega);(first | cases eo10 | (injection eo10 with ea_ en_ ec_;(first | subst ea_ | (injection ea_ with ea_;subst ea_));subst ec_;clear en_));have a1:=Z_ a4;have GG10:=Z_ HG10;clear a4 gl10 HG10;obtain ⟨ce10,hcl10,hM10,hcc10,hfr10⟩:=Kd.R_elem a0.out z83 (x4_1 : Int) p10 q10;obtain rfl:=k83_openM hM10;have hx10_0 : w11.cell? ⟨go10,(x4_1 : Int).toNat * 4,none⟩ = some (.int .i64 ((rd_T83 x3_1 x4_1).f0)):=hcc10 0 _ rfl;have hx10_1 : w11.cell? ⟨go10,(x4_1 : Int).toNat * 4 + 1,none⟩ = some (.int .i64 ((rd_T83 x3_1 x4_1).f1)):=hcc10 1 _ rfl;have hx10_2 : w11.cell? ⟨go10,(x4_1 : Int).toNat * 4 + 2,none⟩ = some (.int .i64 ((rd_T83 x3_1 x4_1).f2)):=hcc10 2 _ rfl;have hx10_3 : w11.cell? ⟨go10,(x4_1 : Int).toNat * 4 + 3,none⟩ = some (.int .i64 ((rd_T83 x3_1 x4_1).f3)):=hcc10 3 _ rfl;have hf10_0 : w11.frozen? ⟨go10,(x4_1 : Int).toNat * 4,none⟩ = false:=hfr10 0;have hf10_1 : w11.frozen? ⟨go10,(x4_1 : Int).toNat * 4 + 1,none⟩ = false:=hfr10 1;have hf10_2 : w11.frozen? ⟨go10,(x4_1 : Int).toNat * 4 + 2,none⟩ = false:=hfr10 2;have hf10_3 : w11.frozen? ⟨go10,(x4_1 : Int).toNat * 4 + 3,none⟩ = false:=hfr10 3;clear hcl10 hcc10 hfr10 hM10;replace p10:=eq_true p10;replace q10:=eq_true q10;have HX12:=Z_ (show Kd.R k83 83 w11 w.heap.size (fun _ => True) (.slice (some ⟨go10,0,none⟩) x3_1.length a3) x3_1 from a0.out);obtain ⟨ce12,hcl12,hM12,hcc12,hfr12⟩:=Kd.R_elem HX12.out z83 (x4_1 : Int) (dA_) (by have h_ : (x4_1 : Int) < ((x3_1.length : Int) : Int):=dA_;first | exact h_ | (have e_:=(Kd.R_reads' a0.out).1;omega) | simpa using h_);obtain rfl:=k83_openM hM12;have HP12:=Kd.R_seg HX12.out (x4_1 : Int) (dA_) (by have h_ : (x4_1 : Int) < ((x3_1.length : Int) : Int):=dA_;first | exact h_ | (have e_:=(Kd.R_reads' a0.out).1;omega) | simpa using h_) (seg:=[.int .i64 t273,.int .i64 t274,.int .i64 t275,.int .i64 t276]) (j:=0) hcl12 hcc12 (show 4 ≤ 4 from by decide) (x':=(⟨t273,t274,t275,t276⟩ : S83)) (k83_mkM _ _ _ (⟨t273,t274,t275,t276⟩ : S83) ) (fun _ hk => hk);have hx12_0:=hcc12 0 _ rfl;(try simp only [show (k83).sz = 4 from rfl,Nat.mul_one,Nat.add_zero] at hx12_0);have hf12_0:=hfr12 0;(try simp only [show (k83).sz = 4 from rfl,Nat.mul_one,Nat.add_zero] at hf12_0);have hx12_1:=hcc12 1 _ rfl;(try simp only [show (k83).sz = 4 from rfl,Nat.mul_one,Nat.add_zero] at hx12_1);have hf12_1:=hfr12 1;(try simp only [show (k83).sz = 4 from rfl,Nat.mul_one,Nat.add_zero] at hf12_1);have hx12_2:=hcc12 2 _ rfl;(try simp only [show (k83).sz = 4 from rfl,Nat.mul_one,Nat.add_zero] at hx12_2);have hf12_2:=hfr12 2;(try simp only [show (k83).sz = 4 from rfl,Nat.mul_one,Nat.add_zero] at hf12_2);have hx12_3:=hcc12 3 _ rfl;(try simp only [show (k83).sz = 4 from rfl,Nat.mul_one,Nat.add_zero] at hx12_3);have hf12_3:=hfr12 3;(try simp only [show (k83).sz = 4 from rfl,Nat.mul_one,Nat.add_zero] at hf12_3);clear hcl12 hcc12 hfr12 hM12) | ((with_reducible refine gate_store (t:=83) (p:=21) rfl ?_);refine store_event (t:=83) (p:=21) (v:=?vo_w13) (w1:=((((w11.setCell ⟨go10,(x4_1 : Int).toNat * 4,none⟩ (.int .i64 t273)).setCell ⟨go10,(x4_1 : Int).toNat * 4 + 1,none⟩ (.int .i64 t274)).setCell ⟨go10,(x4_1 : Int).toNat * 4 + 2,none⟩ (.int .i64 t275)).setCell ⟨go10,(x4_1 : Int).toNat * 4 + 3,none⟩ (.int .i64 t276))) ?hg ?ho ?hn ?hr ?_;(case ho => rfl);(case hg => rfl);(case hn => rfl);(case hr => first | (go_simp;done) | (go_simp;rfl));intro w13 hw;have hg : w11.grownBy w13 (some go10):=(by rw [hw];exact HP12.2);have hp_ : Kd.R k83 83 w13 w.heap.size (fun _ => True) (.slice (some ⟨go10,0,none⟩) x3_1.length a3) y277:=(by rw [hw,a6.out];exact HP12.1);clear HP12;replace a0:=Z_ (hp_);replace HB:=Z_ ((by rw [hw];exact lS1_ (lS1_ (lS1_ (lS1_ (HB.out) a1.out) a1.out) a1.out) a1.out : Below w.heap.size w w13));clear hg hw hp_))
   go_roundg k1
   case measure => have:=HK1.out;omega
   case rel => exact ⟨(y277),(wrap64 (x4_1 + 1)),Sr_,H',⟨by have:=HK1.out;omega⟩,⟨Rk_ a0⟩,⟨Lb_⟩⟩
def laws_toKeys.f (a0_0 a0_1 a0_2 a0_3 : Int) : Option (Int × Int × Int × Int):=some (a0_0,a0_1,a0_2,a0_3)
set_option maxHeartbeats 8000000 in
set_option maxRecDepth 100000 in
theorem laws_toKeys.calls (a0_0 a0_1 a0_2 a0_3 r1 r2 r3 r4 : Int) (w : World) (h : laws_toKeys.f a0_0 a0_1 a0_2 a0_3 = some (r1,r2,r3,r4)) :
  Calls Tryz.prog 106 #[.agg #[.int .i64 a0_0,.int .i64 a0_1,.int .i64 a0_2,.int .i64 a0_3]] w fun e w' => e = .returned (.agg #[.int .i64 r1,.int .i64 r2,.int .i64 r3,.int .i64 r4]) ∧ Below w.heap.size w w':=by
 have hu139:=Tryz.underlying139
 have hu110:=Tryz.underlying110
 have HB:=Z_ (Below.refl w.heap.size w)
 unfold laws_toKeys.f at h
 have H:=h
 clear h
 simp only [Option.some.injEq,Prod.mk.injEq] at H
 obtain ⟨rfl,rfl,rfl,rfl⟩:=H
 go_enter Tryz.func106,Tryz.ntmps106
 go_wp2_with (first | ((with_reducible refine gD_ 1 rfl ?_);refine bx_ #[.int .i64 a0_0,.int .i64 a0_1,.int .i64 a0_2,.int .i64 a0_3] 139 ?_;intro gb278 hg w2 hbox hb;have BK278:=Z_ hbox;have GE278:=Z_ ((by rw [hg];exact (below_size HB.out) : w.heap.size ≤ gb278));replace HB:=Z_ (lP_ HB.out hb);clear hb hbox hg) | ((with_reducible refine gD_ 2 rfl ?_);refine bx_ #[.int .i64 0,.int .i64 0,.int .i64 0,.int .i64 0] 110 ?_;intro gb279 hg w3 hbox hb;have BK279:=Z_ hbox;have GE279:=Z_ ((by rw [hg];exact (below_size HB.out) : w.heap.size ≤ gb279));replace HB:=Z_ (lP_ HB.out hb);have NB278_279:=Z_ ((by rw [hg];exact Nat.ne_of_lt (blk_lt BK278.out) : gb278 ≠ gb279));replace BK278:=Z_ (bB_ BK278.out hb);have NB279_278:=Z_ NB278_279.out.symm;clear hb hbox hg) | ((with_reducible refine gD_ 3 rfl ?_);refine bx_ #[.int .i64 0,.int .i64 0,.int .i64 0,.int .i64 0] 110 ?_;intro gb280 hg w4 hbox hb;have BK280:=Z_ hbox;have GE280:=Z_ ((by rw [hg];exact (below_size HB.out) : w.heap.size ≤ gb280));replace HB:=Z_ (lP_ HB.out hb);have NB278_280:=Z_ ((by rw [hg];exact Nat.ne_of_lt (blk_lt BK278.out) : gb278 ≠ gb280));replace BK278:=Z_ (bB_ BK278.out hb);have NB280_278:=Z_ NB278_280.out.symm;have NB279_280:=Z_ ((by rw [hg];exact Nat.ne_of_lt (blk_lt BK279.out) : gb279 ≠ gb280));replace BK279:=Z_ (bB_ BK279.out hb);have NB280_279:=Z_ NB279_280.out.symm;clear hb hbox hg;have hnb5:=NB278_279.out;have hnc5:=NB279_278.out;have hnb6:=NB278_280.out;have hnc6:=NB280_278.out;obtain ⟨_,_,_,_,_,_,_,_⟩:=bc4 BK278.out;have hnb8:=NB280_279.out;have hnc8:=NB279_280.out;obtain ⟨_,_,_,_,_,_,_,_⟩:=bc4 BK280.out;obtain ⟨_,_,_,_,_,_,_,_⟩:=bc4 BK279.out))
 refine bodyPost_ret (results_cell_row rfl _ _ gb279 110 #[.int .i64 a0_0,.int .i64 a0_1,.int .i64 a0_2,.int .i64 a0_3] (0,0) _ rfl (by (with_reducible repeat first | apply bN_ | apply bD_ | apply bA_);apply fill4;(iterate 4 ((with_reducible repeat first | apply bN_ | apply bD_ | apply bA_);refine bF_ ?_ NB279_280.out _));(with_reducible repeat first | apply bN_ | apply bD_ | apply bA_);exact BK279.out) Tryz.underlying110 rfl (by kernel_rfl)) rfl ?_
 exact ⟨Er_,Lb_⟩
def laws_toWindow.f (a0_0 a0_1 : Int) : Option (Int × Int):=some (a0_0,a0_1)
set_option maxHeartbeats 8000000 in
set_option maxRecDepth 100000 in
theorem laws_toWindow.calls (a0_0 a0_1 r1 r2 : Int) (w : World) (h : laws_toWindow.f a0_0 a0_1 = some (r1,r2)) :
  Calls Tryz.prog 107 #[.agg #[.int .i64 a0_0,.int .i64 a0_1]] w fun e w' => e = .returned (.agg #[.int .i64 r1,.int .i64 r2]) ∧ Below w.heap.size w w':=by
 have hu140:=Tryz.underlying140
 have hu112:=Tryz.underlying112
 have HB:=Z_ (Below.refl w.heap.size w)
 unfold laws_toWindow.f at h
 have H:=h
 clear h
 simp only [Option.some.injEq,Prod.mk.injEq] at H
 obtain ⟨rfl,rfl⟩:=H
 go_enter Tryz.func107,Tryz.ntmps107
 go_wp2_with (first | ((with_reducible refine gD_ 1 rfl ?_);refine bx_ #[.int .i64 a0_0,.int .i64 a0_1] 140 ?_;intro gb281 hg w2 hbox hb;have BK281:=Z_ hbox;have GE281:=Z_ ((by rw [hg];exact (below_size HB.out) : w.heap.size ≤ gb281));replace HB:=Z_ (lP_ HB.out hb);clear hb hbox hg) | ((with_reducible refine gD_ 2 rfl ?_);refine bx_ #[.int .i64 0,.int .i64 0] 112 ?_;intro gb282 hg w3 hbox hb;have BK282:=Z_ hbox;have GE282:=Z_ ((by rw [hg];exact (below_size HB.out) : w.heap.size ≤ gb282));replace HB:=Z_ (lP_ HB.out hb);have NB281_282:=Z_ ((by rw [hg];exact Nat.ne_of_lt (blk_lt BK281.out) : gb281 ≠ gb282));replace BK281:=Z_ (bB_ BK281.out hb);have NB282_281:=Z_ NB281_282.out.symm;clear hb hbox hg) | ((with_reducible refine gD_ 3 rfl ?_);refine bx_ #[.int .i64 0,.int .i64 0] 112 ?_;intro gb283 hg w4 hbox hb;have BK283:=Z_ hbox;have GE283:=Z_ ((by rw [hg];exact (below_size HB.out) : w.heap.size ≤ gb283));replace HB:=Z_ (lP_ HB.out hb);have NB281_283:=Z_ ((by rw [hg];exact Nat.ne_of_lt (blk_lt BK281.out) : gb281 ≠ gb283));replace BK281:=Z_ (bB_ BK281.out hb);have NB283_281:=Z_ NB281_283.out.symm;have NB282_283:=Z_ ((by rw [hg];exact Nat.ne_of_lt (blk_lt BK282.out) : gb282 ≠ gb283));replace BK282:=Z_ (bB_ BK282.out hb);have NB283_282:=Z_ NB282_283.out.symm;clear hb hbox hg;have hnb5:=NB281_282.out;have hnc5:=NB282_281.out;have hnb6:=NB281_283.out;have hnc6:=NB283_281.out;obtain ⟨_,_,_,_⟩:=bc2 BK281.out;have hnb8:=NB283_282.out;have hnc8:=NB282_283.out;obtain ⟨_,_,_,_⟩:=bc2 BK283.out;obtain ⟨_,_,_,_⟩:=bc2 BK282.out))
 refine bodyPost_ret (results_cell_row rfl _ _ gb282 112 #[.int .i64 a0_0,.int .i64 a0_1] (0,0) _ rfl (by (with_reducible repeat first | apply bN_ | apply bD_ | apply bA_);apply fill2;(iterate 2 ((with_reducible repeat first | apply bN_ | apply bD_ | apply bA_);refine bF_ ?_ NB282_283.out _));(with_reducible repeat first | apply bN_ | apply bD_ | apply bA_);exact BK282.out) Tryz.underlying112 rfl (by kernel_rfl)) rfl ?_
 exact ⟨Er_,Lb_⟩
end Go.Proofs.YtcafikgabidphaaGreat.G
set_option linter.unusedVariables false
set_option linter.unusedSimpArgs false
namespace Go.Proofs.YtcafikgabidphaaGreat.G
open Go.RowKit Go.Proofs.YtcafikgabidphaaGreatW.PrintWords Go.Proofs.YtcafikgabidphaaGreatW.PrintLast Go.Proofs.YtcafikgabidphaaGreatW.PrintMore
def RowAt (w : World) (a : Addr) (cs : List Value) : Prop := ∀ j u, cs[j]? = some u → w.cell? (a.add j) = some u
theorem RowAt.below {w W : World} {B : Nat} {a : Addr} {cs : List Value} (h : RowAt w a cs) (hb : Below w.heap.size w W) : RowAt W a cs := fun j u e => (hb.cell (World.block_lt_of_cell? w _ (h j u e))).trans (h j u e)
section
variable {P : Program} {ops : Array Oper} {rest : List Oper} {o : Oper} {a : Act} {w : World} {Q : Exit → Act → World → Prop}
theorem gate_load_ {t : TypeId} {p : Tmp} (_ho : o.op = .load t (.tmp p)) (h : wpList P ops Q (o :: rest) a w) : wpList P ops Q (o :: rest) a w := h
theorem run_loadRow (ty : TypeId) (a0 : Addr) (cs : List Value) (d : TypeDesc) (hc : RowAt w a0 cs) (hu : P.underlying ty = some d) (hd : (match d with | .struct _ | .array _ _ => true | _ => false) = true) (hi : (P.info? ty).map (·.size) = some cs.length) :
    (Instr.loadAt ty (.pointer (some a0))).run P w = .ok (.agg cs.toArray) w := by
  have hl : (loadCells a0 cs.length).run P w = .ok cs.toArray w := run_loadCells_list (P := P) w a0 cs hc
  cases hq : P.info? ty with
  | none => simp [hq] at hi
  | some i =>
    have hs : i.size = cs.length := by simpa [hq] using hi
    have hagg : (isAgg ty).run P w = .ok true w := by
      unfold isAgg
      rw [Sem.run_bind, run_underlying hu w]
      cases d <;> simp_all
    simp only [Instr.loadAt, Instr.sureAddr, Sem.run_bind, Sem.run_pure, Result.andThen_ok]
    simp [loadVar, Sem.run_bind, hagg, sizeOf, typeInfo, hq, hs, hl]
theorem exec_loadRow {ty : TypeId} {x : Operand} (ho : o.op = .load ty x) {a0 : Addr} (hx : a.eval x = .pointer (some a0)) {cs : List Value} {d : TypeDesc} (hc : RowAt w a0 cs) (hu : P.underlying ty = some d) (hd : (match d with | .struct _ | .array _ _ => true | _ => false) = true) (hi : (P.info? ty).map (·.size) = some cs.length) :
    (execOp a.eval o).run P w = .ok (.value (.agg cs.toArray)) w := by
  unfold execOp
  simp only [ho, hx, Sem.run_bind, run_loadRow ty a0 cs d hc hu hd hi, Result.andThen_ok, Sem.run_pure]
theorem load_row_ (hgd : o.guard = none) {ty : TypeId} {x : Operand} (ho : o.op = .load ty x) {a0 : Addr} (hx : a.eval x = .pointer (some a0)) {cs : List Value} {d : TypeDesc} (hc : RowAt w a0 cs) (hu : P.underlying ty = some d) (hd : (match d with | .struct _ | .array _ _ => true | _ => false) = true) (hi : (P.info? ty).map (·.size) = some cs.length)
    (h : wpList P ops Q rest (a.put o.dst (.agg cs.toArray)) w) : wpList P ops Q (o :: rest) a w :=
  Kd.event_run hgd (exec_loadRow ho hx hc hu hd hi) h
end
theorem exec_storeRow {P : Program} {o : Oper} {a : Act} {w : World} {ty : TypeId} {x y : Operand} (ho : o.op = .store ty x y) {g o0 : Nat} (hx : a.eval x = .pointer (some ⟨g, o0, none⟩)) {cs : List Value} (hy : a.eval y = .agg cs.toArray)
    (ht : ∀ j, j < cs.length → (w.cell? ⟨g, o0 + j, none⟩).isSome = true ∧ w.frozen? ⟨g, o0 + j, none⟩ = false) (hi : (P.info? ty).map (·.size) = some cs.length) (h1 : cs.all (·.oneCell') = true) :
    (execOp a.eval o).run P w = .ok .skip (w.setCells g o0 cs) := by
  have hs := run_storeCells_cells (P := P) g o0 cs 0 w (fun j hj => (ht j hj).1) (fun j hj => (ht j hj).2) (fun v hv => List.all_eq_true.1 h1 v hv)
  cases hq : P.info? ty with
  | none => simp [hq] at hi
  | some i =>
    have hz : cs.length = i.size := by simp [hq] at hi; omega
    simp only [Nat.add_zero] at hs
    have hs2 : (Instr.storeAt ty (.pointer (some ⟨g, o0, none⟩)) (.agg cs.toArray)).run P w = .ok () (w.setCells g o0 cs) := by
      simp only [Instr.storeAt, Instr.sureAddr, Sem.run_bind, Sem.run_pure, Result.andThen_ok]
      simp [storeVar, sizeOf, typeInfo, hq, Value.cells, hz, hs]
    unfold execOp
    simp only [ho, hx, hy, Sem.run_bind, hs2, Result.andThen_ok, Sem.run_pure]
def Upd (g : Nat) (w w1 : World) : Prop := ∃ vs, w1 = w.setCells g 0 vs
theorem lSs_ {B : Nat} {w0 w : World} {g o : Nat} {vs : List Value} (h : Below B w0 w) (hg : B ≤ g) : Below B w0 (w.setCells g o vs) := by
  induction vs generalizing w o with
  | nil => exact h
  | cons v r ih => exact ih (h.setCell (p := ⟨g, o, none⟩) hg v)
theorem lU_ {B : Nat} {w0 w w1 : World} {g : Nat} (hU : Upd g w w1) (h : Below B w0 w) (hg : B ≤ g) : Below B w0 w1 := by
  obtain ⟨vs, rfl⟩ := hU
  exact lSs_ h hg
theorem bU_ {w w1 : World} {g k : Nat} {ob : Obj} (hU : Upd g w w1) (h : w.heap[k]? = some ob) (hne : k ≠ g) : w1.heap[k]? = some ob := by
  obtain ⟨vs, rfl⟩ := hU
  exact (setCells_far vs 0 k hne).trans h
theorem blk_setCells {g t : Nat} : ∀ (vs : List Value) (o : Nat) (w : World) (old : Array Value), w.heap[g]? = some (.cells old t (0, 0)) → ∃ new : Array Value, (w.setCells g o vs).heap[g]? = some (.cells new t (0, 0)) ∧ new.size = old.size ∧ (∀ j, j < o → new[j]? = old[j]?) ∧ ∀ j, j < vs.length → o + j < old.size → new[o + j]? = vs[j]?
  | [], _, w, old, h => ⟨old, h, rfl, fun _ _ => rfl, fun j hj => absurd hj (by simp)⟩
  | v :: r, o, w, old, h => by
    obtain ⟨new, h1, h2, h3, h4⟩ := blk_setCells r (o + 1) (w.setCell ⟨g, o, none⟩ v) (old.setIfInBounds o v) (blk_put h o v rfl)
    refine ⟨new, h1, by rw [h2]; simp, fun j hj => ?_, fun j hj hs => ?_⟩
    · rw [h3 j (by omega), Array.getElem?_setIfInBounds]
      simp [show o ≠ j by omega]
    · cases j with
      | zero =>
        rw [Nat.add_zero] at hs ⊢
        rw [h3 o (by omega), Array.getElem?_setIfInBounds]
        simp [hs]
      | succ j =>
        have := h4 j (by simpa using hj) (by simp; omega)
        rw [show o + (j + 1) = o + 1 + j by omega, this]
        rfl
theorem store_box_ {P : Program} {ops : Array Oper} {rest : List Oper} {o : Oper} {a : Act} {W : World} {Q : Exit → Act → World → Prop} (hgd : o.guard = none) {ty : TypeId} {p : Tmp} {y : Operand} (ho : o.op = .store ty (.tmp p) y) (hN : o.dst = none) {g t : Nat} (hx : a.eval (.tmp p) = .pointer (some ⟨g, 0, none⟩)) {cs : List Value} (hy : a.eval y = .agg cs.toArray)
    {old : Array Value} (hg : W.heap[g]? = some (.cells old t (0, 0))) (hold : old.size = cs.length) (hi : (P.info? ty).map (·.size) = some cs.length) (h1 : cs.all (·.oneCell') = true)
    (h : ∀ w1, w1.heap[g]? = some (.cells cs.toArray t (0, 0)) → Upd g W w1 → wpList P ops Q rest a w1) : wpList P ops Q (o :: rest) a W := by
  refine store_event hgd ho hN (exec_storeRow ho hx hy (fun j hj => ?_) hi h1) (fun w' hw => ?_)
  · rw [cell_of_row W g _ old t (0, 0) hg]
    have : j < old.size := by omega
    exact ⟨by simp [this], blk_frozen hg _⟩
  · subst hw
    refine h _ ?_ ⟨cs, rfl⟩
    obtain ⟨new, n1, n2, _, n4⟩ := blk_setCells cs 0 W old hg
    rw [n1]
    congr 2
    apply Array.ext_getElem?
    intro j
    by_cases hj : j < cs.length
    · have := n4 j hj (by omega)
      rw [Nat.zero_add] at this
      rw [this]; simp
    · rw [Array.getElem?_eq_none (by omega), Array.getElem?_eq_none (by simp; omega)]
theorem rowAt_block {w : World} {g t : Nat} {cs : List Value} (h : w.heap[g]? = some (.cells cs.toArray t (0, 0))) : RowAt w ⟨g, 0, none⟩ cs := fun j u e => by
  have hadd : (⟨g, 0, none⟩ : Addr).add j = ⟨g, j, none⟩ := by unfold Addr.add; split <;> simp_all
  rw [hadd, cell_of_row w g j cs.toArray t (0, 0) h]
  simpa using e
theorem size114_ : (Tryz.prog.info? 114).map (·.size) = some 20 := by kernel_rfl
theorem at_L114 {w : World} {A : Option Addr} {n : Nat} {xs : List S114} (h : Kd.C k114 w A n xs) (i : Int) (h0 : 0 ≤ i) (h1 : i < n) : ∃ ad, A = some ad ∧ RowAt w (ad.add (i.toNat * 20)) [.int .i64 (rd_T114 xs i).f0, .int .i64 (rd_T114 xs i).f1, .int .i64 (rd_T114 xs i).f2, .int .i64 (rd_T114 xs i).f3, .int .i64 (rd_T114 xs i).f4, .int .i64 (rd_T114 xs i).f5, .int .i64 (rd_T114 xs i).f6, .int .i64 (rd_T114 xs i).f7, .int .i64 (rd_T114 xs i).f8, .int .i64 (rd_T114 xs i).f9, .int .i64 (rd_T114 xs i).f10, .int .i64 (rd_T114 xs i).f11.f0, .int .i64 (rd_T114 xs i).f11.f1, .int .i64 (rd_T114 xs i).f11.f2, .int .i64 (rd_T114 xs i).f11.f3, .int .i64 (rd_T114 xs i).f12, .int .i64 (rd_T114 xs i).f13, .int .i64 (rd_T114 xs i).f14, .int .i64 (rd_T114 xs i).f15.f0, .int .i64 (rd_T114 xs i).f15.f1] := by
  obtain ⟨ad, c, e, _, hK, hc0⟩ := Kd.C_get h z114 i h0 h1
  have hc : ∀ j u, c[j]? = some u → w.cell? (ad.add (i.toNat * 20 + j)) = some u := hc0
  obtain rfl := k114_open hK
  refine ⟨ad, e, fun j u hj => ?_⟩
  rw [Go.Deep.add_add]
  exact hc j u hj
theorem size142_ : (Tryz.prog.info? 142).map (·.size) = some 20 := by kernel_rfl
theorem at_L142 {w : World} {A : Option Addr} {n : Nat} {xs : List S142} (h : Kd.C k142 w A n xs) (i : Int) (h0 : 0 ≤ i) (h1 : i < n) : ∃ ad, A = some ad ∧ RowAt w (ad.add (i.toNat * 20)) [.int .i64 (rd_T142 xs i).f0, .int .i64 (rd_T142 xs i).f1, .int .i64 (rd_T142 xs i).f2, .int .i64 (rd_T142 xs i).f3, .int .i64 (rd_T142 xs i).f4, .int .i64 (rd_T142 xs i).f5, .int .i64 (rd_T142 xs i).f6, .int .i64 (rd_T142 xs i).f7, .int .i64 (rd_T142 xs i).f8, .int .i64 (rd_T142 xs i).f9, .int .i64 (rd_T142 xs i).f10, .int .i64 (rd_T142 xs i).f11.f0, .int .i64 (rd_T142 xs i).f11.f1, .int .i64 (rd_T142 xs i).f11.f2, .int .i64 (rd_T142 xs i).f11.f3, .int .i64 (rd_T142 xs i).f12, .int .i64 (rd_T142 xs i).f13, .int .i64 (rd_T142 xs i).f14, .int .i64 (rd_T142 xs i).f15.f0, .int .i64 (rd_T142 xs i).f15.f1] := by
  obtain ⟨ad, c, e, _, hK, hc0⟩ := Kd.C_get h z142 i h0 h1
  have hc : ∀ j u, c[j]? = some u → w.cell? (ad.add (i.toNat * 20 + j)) = some u := hc0
  obtain rfl := k142_open hK
  refine ⟨ad, e, fun j u hj => ?_⟩
  rw [Go.Deep.add_add]
  exact hc j u hj
end Go.Proofs.YtcafikgabidphaaGreat.G
namespace Go.Proofs.YtcafikgabidphaaGreat.G
open Go.RowKit Go.Proofs.YtcafikgabidphaaGreatW.PrintWords Go.Proofs.YtcafikgabidphaaGreatW.PrintLast Go.Proofs.YtcafikgabidphaaGreatW.PrintMore
attribute [local go_sem] max2_int min2_int max_two min_two max_three min_three max_four min_four   -- for this text's walks alone
set_option linter.unusedVariables false
set_option linter.unusedSimpArgs false
def laws_toTalk.f (a0_0 a0_1 a0_2 a0_3 a0_4 a0_5 a0_6 a0_7 a0_8 a0_9 a0_10 a0_11 a0_12 a0_13 a0_14 a0_15 a0_16 a0_17 a0_18 a0_19 : Int) : Option (Int × Int × Int × Int × Int × Int × Int × Int × Int × Int × Int × Int × Int × Int × Int × Int × Int × Int × Int × Int):=(laws_toKeys.f a0_11 a0_12 a0_13 a0_14).bind fun bt287 => ((laws_toWindow.f a0_18 a0_19).bind fun bt291 => (some (a0_0,a0_1,a0_2,a0_3,a0_4,a0_5,a0_6,a0_7,a0_8,a0_9,a0_10,bt287.1,bt287.2.1,bt287.2.2.1,bt287.2.2.2,a0_15,a0_16,a0_17,bt291.1,bt291.2)))
set_option maxHeartbeats 8000000 in
set_option maxRecDepth 100000 in
theorem laws_toTalk.calls (a0_0 a0_1 a0_2 a0_3 a0_4 a0_5 a0_6 a0_7 a0_8 a0_9 a0_10 a0_11 a0_12 a0_13 a0_14 a0_15 a0_16 a0_17 a0_18 a0_19 r1 r2 r3 r4 r5 r6 r7 r8 r9 r10 r11 r12 r13 r14 r15 r16 r17 r18 r19 r20 : Int) (w : World) (h : laws_toTalk.f a0_0 a0_1 a0_2 a0_3 a0_4 a0_5 a0_6 a0_7 a0_8 a0_9 a0_10 a0_11 a0_12 a0_13 a0_14 a0_15 a0_16 a0_17 a0_18 a0_19 = some (r1,r2,r3,r4,r5,r6,r7,r8,r9,r10,r11,r12,r13,r14,r15,r16,r17,r18,r19,r20)) :
  Calls Tryz.prog 96 #[.agg #[.int .i64 a0_0,.int .i64 a0_1,.int .i64 a0_2,.int .i64 a0_3,.int .i64 a0_4,.int .i64 a0_5,.int .i64 a0_6,.int .i64 a0_7,.int .i64 a0_8,.int .i64 a0_9,.int .i64 a0_10,.int .i64 a0_11,.int .i64 a0_12,.int .i64 a0_13,.int .i64 a0_14,.int .i64 a0_15,.int .i64 a0_16,.int .i64 a0_17,.int .i64 a0_18,.int .i64 a0_19]] w fun e w' => e = .returned (.agg #[.int .i64 r1,.int .i64 r2,.int .i64 r3,.int .i64 r4,.int .i64 r5,.int .i64 r6,.int .i64 r7,.int .i64 r8,.int .i64 r9,.int .i64 r10,.int .i64 r11,.int .i64 r12,.int .i64 r13,.int .i64 r14,.int .i64 r15,.int .i64 r16,.int .i64 r17,.int .i64 r18,.int .i64 r19,.int .i64 r20]) ∧ Below w.heap.size w w':=by
 have hu142:=Tryz.underlying142
 have hu114:=Tryz.underlying114
 have hu139:=Tryz.underlying139
 have hu110:=Tryz.underlying110
 have hu140:=Tryz.underlying140
 have hu112:=Tryz.underlying112
 have HB:=Z_ (Below.refl w.heap.size w)
 unfold laws_toTalk.f at h
 have H:=h
 clear h
 replace H:=bS_ H
 obtain ⟨⟨t287,t288,t289,t290⟩,A2,H⟩:=H
 try dsimp only at H
 replace H:=bS_ H
 obtain ⟨⟨t291,t292⟩,A3,H⟩:=H
 try dsimp only at H
 simp only [Option.some.injEq,Prod.mk.injEq] at H
 obtain ⟨rfl,rfl,rfl,rfl,rfl,rfl,rfl,rfl,rfl,rfl,rfl,rfl,rfl,rfl,rfl,rfl,rfl,rfl,rfl,rfl⟩:=H
 go_enter Tryz.func96,Tryz.ntmps96
 go_wp2_with (first | ((with_reducible refine gD_ 1 rfl ?_);refine bx_ #[.int .i64 a0_0,.int .i64 a0_1,.int .i64 a0_2,.int .i64 a0_3,.int .i64 a0_4,.int .i64 a0_5,.int .i64 a0_6,.int .i64 a0_7,.int .i64 a0_8,.int .i64 a0_9,.int .i64 a0_10,.int .i64 a0_11,.int .i64 a0_12,.int .i64 a0_13,.int .i64 a0_14,.int .i64 a0_15,.int .i64 a0_16,.int .i64 a0_17,.int .i64 a0_18,.int .i64 a0_19] 142 ?_;intro a7 hg w4 hbox hb;have a0:=Z_ hbox;have a8:=Z_ ((by rw [hg];exact (below_size HB.out) : w.heap.size ≤ a7));replace HB:=Z_ (lP_ HB.out hb);clear hb hbox hg) | ((with_reducible refine gD_ 2 rfl ?_);refine bx_ #[.int .i64 0,.int .i64 0,.int .i64 0,.int .i64 0,.int .i64 0,.int .i64 0,.int .i64 0,.int .i64 0,.int .i64 0,.int .i64 0,.int .i64 0,.int .i64 0,.int .i64 0,.int .i64 0,.int .i64 0,.int .i64 0,.int .i64 0,.int .i64 0,.int .i64 0,.int .i64 0] 114 ?_;intro a4 hg w5 hbox hb;have a1:=Z_ hbox;have a9:=Z_ ((by rw [hg];exact (below_size HB.out) : w.heap.size ≤ a4));replace HB:=Z_ (lP_ HB.out hb);have ab:=Z_ ((by rw [hg];exact Nat.ne_of_lt (blk_lt a0.out) : a7 ≠ a4));replace a0:=Z_ (bB_ a0.out hb);have ac:=Z_ ab.out.symm;clear hb hbox hg) | ((with_reducible refine gD_ 3 rfl ?_);refine bx_ #[.int .i64 0,.int .i64 0,.int .i64 0,.int .i64 0,.int .i64 0,.int .i64 0,.int .i64 0,.int .i64 0,.int .i64 0,.int .i64 0,.int .i64 0,.int .i64 0,.int .i64 0,.int .i64 0,.int .i64 0,.int .i64 0,.int .i64 0,.int .i64 0,.int .i64 0,.int .i64 0] 114 ?_;intro a5 hg w6 hbox hb;have a2:=Z_ hbox;have aa:=Z_ ((by rw [hg];exact (below_size HB.out) : w.heap.size ≤ a5));replace HB:=Z_ (lP_ HB.out hb);have a6:=Z_ ((by rw [hg];exact Nat.ne_of_lt (blk_lt a0.out) : a7 ≠ a5));replace a0:=Z_ (bB_ a0.out hb);have ad:=Z_ a6.out.symm;have a3:=Z_ ((by rw [hg];exact Nat.ne_of_lt (blk_lt a1.out) : a4 ≠ a5));replace a1:=Z_ (bB_ a1.out hb);have ae:=Z_ a3.out.symm;clear hb hbox hg;have aj:=ab.out;have ak:=ac.out;have al:=a6.out;have am:=ad.out;obtain ⟨_,_,_,_,_,_,_,_,_,_,_,_,_,_,_,_,_,_,_,_,_,_,_,_,_,_,_,_,_,_,_,_,_,_,_,_,_,_,_,_⟩:=bc20 a0.out;have ah:=ae.out;have ai:=a3.out;obtain ⟨_,_,_,_,_,_,_,_,_,_,_,_,_,_,_,_,_,_,_,_,_,_,_,_,_,_,_,_,_,_,_,_,_,_,_,_,_,_,_,_⟩:=bc20 a2.out) | ((with_reducible refine gate_callee (f:=106) rfl ?_);refine goesA_ (some 39) rfl rfl Tryz.func106 (by kernel_rfl) rfl #[.agg #[.int .i64 a0_11,.int .i64 a0_12,.int .i64 a0_13,.int .i64 a0_14]] rfl ?_;(with_reducible refine (laws_toKeys.calls a0_11 a0_12 a0_13 a0_14 t287 t288 t289 t290 _ A2.out).mono ?_);rintro e w12 ⟨rfl,hb⟩;refine ⟨_,rfl,?_⟩;replace a0:=Z_ (bB_ (g:=a7) (o:=.cells #[.int .i64 a0_0,.int .i64 a0_1,.int .i64 a0_2,.int .i64 a0_3,.int .i64 a0_4,.int .i64 a0_5,.int .i64 a0_6,.int .i64 a0_7,.int .i64 a0_8,.int .i64 a0_9,.int .i64 a0_10,.int .i64 a0_11,.int .i64 a0_12,.int .i64 a0_13,.int .i64 a0_14,.int .i64 a0_15,.int .i64 a0_16,.int .i64 a0_17,.int .i64 a0_18,.int .i64 a0_19] 142 (0,0)) (by (iterate 11 (refine bF_ ?_ a6.out _));exact a0.out) hb);replace a1:=Z_ (bB_ (g:=a4) (o:=.cells #[.int .i64 0,.int .i64 0,.int .i64 0,.int .i64 0,.int .i64 0,.int .i64 0,.int .i64 0,.int .i64 0,.int .i64 0,.int .i64 0,.int .i64 0,.int .i64 0,.int .i64 0,.int .i64 0,.int .i64 0,.int .i64 0,.int .i64 0,.int .i64 0,.int .i64 0,.int .i64 0] 114 (0,0)) (by (iterate 11 (refine bF_ ?_ a3.out _));exact a1.out) hb);replace a2:=Z_ (bB_ (g:=a5) (o:=.cells #[.int .i64 a0_0,.int .i64 a0_1,.int .i64 a0_2,.int .i64 a0_3,.int .i64 a0_4,.int .i64 a0_5,.int .i64 a0_6,.int .i64 a0_7,.int .i64 a0_8,.int .i64 a0_9,.int .i64 a0_10,.int .i64 0,.int .i64 0,.int .i64 0,.int .i64 0,.int .i64 0,.int .i64 0,.int .i64 0,.int .i64 0,.int .i64 0] 114 (0,0)) (by refine blk_put (cs:=#[.int .i64 a0_0,.int .i64 a0_1,.int .i64 a0_2,.int .i64 a0_3,.int .i64 a0_4,.int .i64 a0_5,.int .i64 a0_6,.int .i64 a0_7,.int .i64 a0_8,.int .i64 a0_9,.int .i64 0,.int .i64 0,.int .i64 0,.int .i64 0,.int .i64 0,.int .i64 0,.int .i64 0,.int .i64 0,.int .i64 0,.int .i64 0]) ?_ 10 _ rfl;refine blk_put (cs:=#[.int .i64 a0_0,.int .i64 a0_1,.int .i64 a0_2,.int .i64 a0_3,.int .i64 a0_4,.int .i64 a0_5,.int .i64 a0_6,.int .i64 a0_7,.int .i64 a0_8,.int .i64 0,.int .i64 0,.int .i64 0,.int .i64 0,.int .i64 0,.int .i64 0,.int .i64 0,.int .i64 0,.int .i64 0,.int .i64 0,.int .i64 0]) ?_ 9 _ rfl;refine blk_put (cs:=#[.int .i64 a0_0,.int .i64 a0_1,.int .i64 a0_2,.int .i64 a0_3,.int .i64 a0_4,.int .i64 a0_5,.int .i64 a0_6,.int .i64 a0_7,.int .i64 0,.int .i64 0,.int .i64 0,.int .i64 0,.int .i64 0,.int .i64 0,.int .i64 0,.int .i64 0,.int .i64 0,.int .i64 0,.int .i64 0,.int .i64 0]) ?_ 8 _ rfl;refine blk_put (cs:=#[.int .i64 a0_0,.int .i64 a0_1,.int .i64 a0_2,.int .i64 a0_3,.int .i64 a0_4,.int .i64 a0_5,.int .i64 a0_6,.int .i64 0,.int .i64 0,.int .i64 0,.int .i64 0,.int .i64 0,.int .i64 0,.int .i64 0,.int .i64 0,.int .i64 0,.int .i64 0,.int .i64 0,.int .i64 0,.int .i64 0]) ?_ 7 _ rfl;refine blk_put (cs:=#[.int .i64 a0_0,.int .i64 a0_1,.int .i64 a0_2,.int .i64 a0_3,.int .i64 a0_4,.int .i64 a0_5,.int .i64 0,.int .i64 0,.int .i64 0,.int .i64 0,.int .i64 0,.int .i64 0,.int .i64 0,.int .i64 0,.int .i64 0,.int .i64 0,.int .i64 0,.int .i64 0,.int .i64 0,.int .i64 0]) ?_ 6 _ rfl;refine blk_put (cs:=#[.int .i64 a0_0,.int .i64 a0_1,.int .i64 a0_2,.int .i64 a0_3,.int .i64 a0_4,.int .i64 0,.int .i64 0,.int .i64 0,.int .i64 0,.int .i64 0,.int .i64 0,.int .i64 0,.int .i64 0,.int .i64 0,.int .i64 0,.int .i64 0,.int .i64 0,.int .i64 0,.int .i64 0,.int .i64 0]) ?_ 5 _ rfl;refine blk_put (cs:=#[.int .i64 a0_0,.int .i64 a0_1,.int .i64 a0_2,.int .i64 a0_3,.int .i64 0,.int .i64 0,.int .i64 0,.int .i64 0,.int .i64 0,.int .i64 0,.int .i64 0,.int .i64 0,.int .i64 0,.int .i64 0,.int .i64 0,.int .i64 0,.int .i64 0,.int .i64 0,.int .i64 0,.int .i64 0]) ?_ 4 _ rfl;refine blk_put (cs:=#[.int .i64 a0_0,.int .i64 a0_1,.int .i64 a0_2,.int .i64 0,.int .i64 0,.int .i64 0,.int .i64 0,.int .i64 0,.int .i64 0,.int .i64 0,.int .i64 0,.int .i64 0,.int .i64 0,.int .i64 0,.int .i64 0,.int .i64 0,.int .i64 0,.int .i64 0,.int .i64 0,.int .i64 0]) ?_ 3 _ rfl;refine blk_put (cs:=#[.int .i64 a0_0,.int .i64 a0_1,.int .i64 0,.int .i64 0,.int .i64 0,.int .i64 0,.int .i64 0,.int .i64 0,.int .i64 0,.int .i64 0,.int .i64 0,.int .i64 0,.int .i64 0,.int .i64 0,.int .i64 0,.int .i64 0,.int .i64 0,.int .i64 0,.int .i64 0,.int .i64 0]) ?_ 2 _ rfl;refine blk_put (cs:=#[.int .i64 a0_0,.int .i64 0,.int .i64 0,.int .i64 0,.int .i64 0,.int .i64 0,.int .i64 0,.int .i64 0,.int .i64 0,.int .i64 0,.int .i64 0,.int .i64 0,.int .i64 0,.int .i64 0,.int .i64 0,.int .i64 0,.int .i64 0,.int .i64 0,.int .i64 0,.int .i64 0]) ?_ 1 _ rfl;refine blk_put (cs:=#[.int .i64 0,.int .i64 0,.int .i64 0,.int .i64 0,.int .i64 0,.int .i64 0,.int .i64 0,.int .i64 0,.int .i64 0,.int .i64 0,.int .i64 0,.int .i64 0,.int .i64 0,.int .i64 0,.int .i64 0,.int .i64 0,.int .i64 0,.int .i64 0,.int .i64 0,.int .i64 0]) ?_ 0 _ rfl;exact a2.out) hb);replace HB:=Z_ (lP_ Lb_ hb);(try clear hb);obtain ⟨_,_,_,_,_,_,_,_,_,_,_,_,_,_,_,_,_,_,_,_,_,_,_,_,_,_,_,_,_,_,_,_,_,_,_,_,_,_,_,_⟩:=bc20 a2.out;obtain ⟨_,_,_,_,_,_,_,_,_,_,_,_,_,_,_,_,_,_,_,_,_,_,_,_,_,_,_,_,_,_,_,_,_,_,_,_,_,_,_,_⟩:=bc20 a0.out) | ((with_reducible refine gate_callee (f:=107) rfl ?_);refine goesA_ (some 52) rfl rfl Tryz.func107 (by kernel_rfl) rfl #[.agg #[.int .i64 a0_18,.int .i64 a0_19]] rfl ?_;(with_reducible refine (laws_toWindow.calls a0_18 a0_19 t291 t292 _ A3.out).mono ?_);rintro e w15 ⟨rfl,hb⟩;refine ⟨_,rfl,?_⟩;replace a1:=Z_ (bB_ (g:=a4) (o:=.cells #[.int .i64 0,.int .i64 0,.int .i64 0,.int .i64 0,.int .i64 0,.int .i64 0,.int .i64 0,.int .i64 0,.int .i64 0,.int .i64 0,.int .i64 0,.int .i64 0,.int .i64 0,.int .i64 0,.int .i64 0,.int .i64 0,.int .i64 0,.int .i64 0,.int .i64 0,.int .i64 0] 114 (0,0)) (by (iterate 7 (refine bF_ ?_ a3.out _));exact a1.out) hb);replace a2:=Z_ (bB_ (g:=a5) (o:=.cells #[.int .i64 a0_0,.int .i64 a0_1,.int .i64 a0_2,.int .i64 a0_3,.int .i64 a0_4,.int .i64 a0_5,.int .i64 a0_6,.int .i64 a0_7,.int .i64 a0_8,.int .i64 a0_9,.int .i64 a0_10,.int .i64 t287,.int .i64 t288,.int .i64 t289,.int .i64 t290,.int .i64 a0_15,.int .i64 a0_16,.int .i64 a0_17,.int .i64 0,.int .i64 0] 114 (0,0)) (by refine blk_put (cs:=#[.int .i64 a0_0,.int .i64 a0_1,.int .i64 a0_2,.int .i64 a0_3,.int .i64 a0_4,.int .i64 a0_5,.int .i64 a0_6,.int .i64 a0_7,.int .i64 a0_8,.int .i64 a0_9,.int .i64 a0_10,.int .i64 t287,.int .i64 t288,.int .i64 t289,.int .i64 t290,.int .i64 a0_15,.int .i64 a0_16,.int .i64 0,.int .i64 0,.int .i64 0]) ?_ 17 _ rfl;refine blk_put (cs:=#[.int .i64 a0_0,.int .i64 a0_1,.int .i64 a0_2,.int .i64 a0_3,.int .i64 a0_4,.int .i64 a0_5,.int .i64 a0_6,.int .i64 a0_7,.int .i64 a0_8,.int .i64 a0_9,.int .i64 a0_10,.int .i64 t287,.int .i64 t288,.int .i64 t289,.int .i64 t290,.int .i64 a0_15,.int .i64 0,.int .i64 0,.int .i64 0,.int .i64 0]) ?_ 16 _ rfl;refine blk_put (cs:=#[.int .i64 a0_0,.int .i64 a0_1,.int .i64 a0_2,.int .i64 a0_3,.int .i64 a0_4,.int .i64 a0_5,.int .i64 a0_6,.int .i64 a0_7,.int .i64 a0_8,.int .i64 a0_9,.int .i64 a0_10,.int .i64 t287,.int .i64 t288,.int .i64 t289,.int .i64 t290,.int .i64 0,.int .i64 0,.int .i64 0,.int .i64 0,.int .i64 0]) ?_ 15 _ rfl;refine blk_put (cs:=#[.int .i64 a0_0,.int .i64 a0_1,.int .i64 a0_2,.int .i64 a0_3,.int .i64 a0_4,.int .i64 a0_5,.int .i64 a0_6,.int .i64 a0_7,.int .i64 a0_8,.int .i64 a0_9,.int .i64 a0_10,.int .i64 t287,.int .i64 t288,.int .i64 t289,.int .i64 0,.int .i64 0,.int .i64 0,.int .i64 0,.int .i64 0,.int .i64 0]) ?_ 14 _ rfl;refine blk_put (cs:=#[.int .i64 a0_0,.int .i64 a0_1,.int .i64 a0_2,.int .i64 a0_3,.int .i64 a0_4,.int .i64 a0_5,.int .i64 a0_6,.int .i64 a0_7,.int .i64 a0_8,.int .i64 a0_9,.int .i64 a0_10,.int .i64 t287,.int .i64 t288,.int .i64 0,.int .i64 0,.int .i64 0,.int .i64 0,.int .i64 0,.int .i64 0,.int .i64 0]) ?_ 13 _ rfl;refine blk_put (cs:=#[.int .i64 a0_0,.int .i64 a0_1,.int .i64 a0_2,.int .i64 a0_3,.int .i64 a0_4,.int .i64 a0_5,.int .i64 a0_6,.int .i64 a0_7,.int .i64 a0_8,.int .i64 a0_9,.int .i64 a0_10,.int .i64 t287,.int .i64 0,.int .i64 0,.int .i64 0,.int .i64 0,.int .i64 0,.int .i64 0,.int .i64 0,.int .i64 0]) ?_ 12 _ rfl;refine blk_put (cs:=#[.int .i64 a0_0,.int .i64 a0_1,.int .i64 a0_2,.int .i64 a0_3,.int .i64 a0_4,.int .i64 a0_5,.int .i64 a0_6,.int .i64 a0_7,.int .i64 a0_8,.int .i64 a0_9,.int .i64 a0_10,.int .i64 0,.int .i64 0,.int .i64 0,.int .i64 0,.int .i64 0,.int .i64 0,.int .i64 0,.int .i64 0,.int .i64 0]) ?_ 11 _ rfl;exact a2.out) hb);replace HB:=Z_ (lP_ Lb_ hb);(try clear hb);obtain ⟨_,_,_,_,_,_,_,_,_,_,_,_,_,_,_,_,_,_,_,_,_,_,_,_,_,_,_,_,_,_,_,_,_,_,_,_,_,_,_,_⟩:=bc20 a2.out;obtain ⟨_,_,_,_,_,_,_,_,_,_,_,_,_,_,_,_,_,_,_,_,_,_,_,_,_,_,_,_,_,_,_,_,_,_,_,_,_,_,_,_⟩:=bc20 a1.out) | ((with_reducible refine gate_load_ (t:=114) rfl ?_);refine load_row_ (by rfl) (by rfl) (by rfl) (rowAt_block (t:=114) (cs:=[.int .i64 a0_0,.int .i64 a0_1,.int .i64 a0_2,.int .i64 a0_3,.int .i64 a0_4,.int .i64 a0_5,.int .i64 a0_6,.int .i64 a0_7,.int .i64 a0_8,.int .i64 a0_9,.int .i64 a0_10,.int .i64 t287,.int .i64 t288,.int .i64 t289,.int .i64 t290,.int .i64 a0_15,.int .i64 a0_16,.int .i64 a0_17,.int .i64 t291,.int .i64 t292]) (blk_put (cs':=#[.int .i64 a0_0,.int .i64 a0_1,.int .i64 a0_2,.int .i64 a0_3,.int .i64 a0_4,.int .i64 a0_5,.int .i64 a0_6,.int .i64 a0_7,.int .i64 a0_8,.int .i64 a0_9,.int .i64 a0_10,.int .i64 t287,.int .i64 t288,.int .i64 t289,.int .i64 t290,.int .i64 a0_15,.int .i64 a0_16,.int .i64 a0_17,.int .i64 t291,.int .i64 t292]) (blk_put (cs':=#[.int .i64 a0_0,.int .i64 a0_1,.int .i64 a0_2,.int .i64 a0_3,.int .i64 a0_4,.int .i64 a0_5,.int .i64 a0_6,.int .i64 a0_7,.int .i64 a0_8,.int .i64 a0_9,.int .i64 a0_10,.int .i64 t287,.int .i64 t288,.int .i64 t289,.int .i64 t290,.int .i64 a0_15,.int .i64 a0_16,.int .i64 a0_17,.int .i64 t291,.int .i64 0]) a2.out 18 _ rfl) 19 _ rfl)) Tryz.underlying114 rfl size114_ ?_) | ((with_reducible refine gate_store (t:=114) rfl ?_);refine store_box_ (by rfl) (by rfl) (by rfl) (by rfl) (by rfl) (g:=a4) (t:=114) (old:=#[.int .i64 0,.int .i64 0,.int .i64 0,.int .i64 0,.int .i64 0,.int .i64 0,.int .i64 0,.int .i64 0,.int .i64 0,.int .i64 0,.int .i64 0,.int .i64 0,.int .i64 0,.int .i64 0,.int .i64 0,.int .i64 0,.int .i64 0,.int .i64 0,.int .i64 0,.int .i64 0]) (by (iterate 2 (refine bF_ ?_ a3.out _));exact a1.out) (by rfl) size114_ (by rfl) ?_;intro w99_ hst hU;have n0_:=Z_ (lU_ hU Lb_ a9.out);have BST:=Z_ hst;clear HB hU hst;have HB:=n0_;clear n0_))
 refine bodyPost_ret (results_cell_row rfl _ _ a4 114 #[.int .i64 a0_0,.int .i64 a0_1,.int .i64 a0_2,.int .i64 a0_3,.int .i64 a0_4,.int .i64 a0_5,.int .i64 a0_6,.int .i64 a0_7,.int .i64 a0_8,.int .i64 a0_9,.int .i64 a0_10,.int .i64 t287,.int .i64 t288,.int .i64 t289,.int .i64 t290,.int .i64 a0_15,.int .i64 a0_16,.int .i64 a0_17,.int .i64 t291,.int .i64 t292] (0,0) _ rfl BST.out Tryz.underlying114 rfl (by kernel_rfl)) rfl ?_
 exact ⟨Er_,Lb_⟩
def laws_toTalkS.l0 : Nat → List (S142) → List (S114) → Int → Option ((List (S114)))
 | 0,_,_,_ => none
 | k + 1,x0,x3,x4 => if x4 < (x0.length : Int) then (if 0 ≤ x4 then ((laws_toTalk.f ((rd_T142 x0 x4).f0) ((rd_T142 x0 x4).f1) ((rd_T142 x0 x4).f2) ((rd_T142 x0 x4).f3) ((rd_T142 x0 x4).f4) ((rd_T142 x0 x4).f5) ((rd_T142 x0 x4).f6) ((rd_T142 x0 x4).f7) ((rd_T142 x0 x4).f8) ((rd_T142 x0 x4).f9) ((rd_T142 x0 x4).f10) ((rd_T142 x0 x4).f11.f0) ((rd_T142 x0 x4).f11.f1) ((rd_T142 x0 x4).f11.f2) ((rd_T142 x0 x4).f11.f3) ((rd_T142 x0 x4).f12) ((rd_T142 x0 x4).f13) ((rd_T142 x0 x4).f14) ((rd_T142 x0 x4).f15.f0) ((rd_T142 x0 x4).f15.f1)).bind fun bt297 => (if x4 < (x3.length : Int) then (laws_toTalkS.l0 k x0 (x3.set (x4 : Int).toNat (⟨bt297.1,bt297.2.1,bt297.2.2.1,bt297.2.2.2.1,bt297.2.2.2.2.1,bt297.2.2.2.2.2.1,bt297.2.2.2.2.2.2.1,bt297.2.2.2.2.2.2.2.1,bt297.2.2.2.2.2.2.2.2.1,bt297.2.2.2.2.2.2.2.2.2.1,bt297.2.2.2.2.2.2.2.2.2.2.1,(⟨bt297.2.2.2.2.2.2.2.2.2.2.2.1,bt297.2.2.2.2.2.2.2.2.2.2.2.2.1,bt297.2.2.2.2.2.2.2.2.2.2.2.2.2.1,bt297.2.2.2.2.2.2.2.2.2.2.2.2.2.2.1⟩ : S110),bt297.2.2.2.2.2.2.2.2.2.2.2.2.2.2.2.1,bt297.2.2.2.2.2.2.2.2.2.2.2.2.2.2.2.2.1,bt297.2.2.2.2.2.2.2.2.2.2.2.2.2.2.2.2.2.1,(⟨bt297.2.2.2.2.2.2.2.2.2.2.2.2.2.2.2.2.2.2.1,bt297.2.2.2.2.2.2.2.2.2.2.2.2.2.2.2.2.2.2.2⟩ : S112)⟩ : S114)) (wrap64 (x4 + 1))) else (none))) else (none)) else (some x3)
def laws_toTalkS.f (k : Nat) (l0 : List (S142)) : Option ((List (S114))):=if 0 ≤ (l0.length : Int) then (if ((l0.length : Int) : Int).toNat ≤ 1759218604441 then (laws_toTalkS.l0 k l0 (List.replicate ((l0.length : Int) : Int).toNat z114) 0) else (none)) else (none)
set_option maxHeartbeats 8000000 in
set_option maxRecDepth 100000 in
theorem laws_toTalkS.calls (k : Nat) (A0 : Option Addr) (c0 : Nat) (l0 : List (S142)) (r : List (S114)) (w : World) (hr0 : Kd.C k142 w A0 l0.length l0) (hc0 : l0.length ≤ c0) (h : laws_toTalkS.f k l0 = some r) :
  Calls Tryz.prog 79 #[.slice A0 l0.length c0] w fun e w' => ∃ v0_ : Value,e = .returned (v0_) ∧ Kd.R k114 114 w' w.heap.size (fun _ => True) v0_ r ∧ Below w.heap.size w w':=by
 have hu142:=Tryz.underlying142
 have hu114:=Tryz.underlying114
 have a8:=Z_ hr0
 have a9:=Z_ hc0
 clear hr0 hc0
 have HB:=Z_ (Below.refl w.heap.size w)
 unfold laws_toTalkS.f at h
 have H:=h
 clear h
 replace H:=iN_ H
 obtain ⟨c2,H⟩:=H
 have c2b0:=eq_true c2
 have c2b1 : decide (0 ≤ (l0.length : Int)) = true:=decide_eq_true c2
 clear c2
 replace H:=iN_ H
 obtain ⟨c3,H⟩:=H
 have c3b0:=eq_true c3
 have c3b1 : decide (((l0.length : Int) : Int).toNat ≤ 1759218604441) = true:=decide_eq_true c3
 clear c3
 obtain ⟨y293,hy293⟩ : ∃ y_ : List (S114),y_ = (List.replicate ((l0.length : Int) : Int).toNat z114):=⟨_,rfl⟩
 replace H : (laws_toTalkS.l0 k l0 y293 0) = some r:=by first | (rw [hy293];with_reducible exact H) | (have H2_:=(Option.bind_some _ _).symm.trans H;rw [hy293];with_reducible exact H2_) | (have H2_:=(Option.bind_some _ _).symm.trans H;with_reducible exact H2_) | with_reducible exact H | (rw [hy293];exact H) | exact H
 have a2:=Z_ hy293
 clear hy293
 have H':=Z_ H
 clear H
 go_enter Tryz.func79,Tryz.ntmps79
 go_wp2_with (first | ((with_reducible refine gD_ 7 rfl ?_);refine Kd.R_make k114 _ 114 rfl (N:=7) rfl 74 _ _ rfl (l0.length : Int) rfl rfl Tryz.underlying74 (.agg #[(.int .i64 0),(.int .i64 0),(.int .i64 0),(.int .i64 0),(.int .i64 0),(.int .i64 0),(.int .i64 0),(.int .i64 0),(.int .i64 0),(.int .i64 0),(.int .i64 0),(.int .i64 0),(.int .i64 0),(.int .i64 0),(.int .i64 0),(.int .i64 0),(.int .i64 0),(.int .i64 0),(.int .i64 0),(.int .i64 0)]) 160 info114 rfl (by decide) (by omega) z114 (ok:=fun _ => True) (okp:=fun _ => True) (k114_mkM _ _ _ z114 ) (fun _ hk => hk) trivial (dA_) (Nat.le_trans (Nat.mul_le_mul_right _ (dA_ : (l0.length : Int).toNat ≤ 1759218604441)) (by omega)) (Below.refl _ _) (Nat.le_refl _) ?_;intro v294 w4 ho5 hb hg_ hnew_;clear hg_ hnew_;(first | rw [← a2.out] at ho5 | (simp only [Int.reduceToNat] at ho5;rw [← a2.out] at ho5));have a5:=Z_ (Kd.R_lower ho5 (below_size HB.out));replace HB:=Z_ (lP_ HB.out hb);clear hb ho5))
 go_loopg [4] k (fun kq v4 w' => ∃ (x3_1 : List (S114)) (x4_1 : Int),v4 = .int .i64 x4_1 ∧ Aside0 (laws_toTalkS.l0 kq l0 x3_1 x4_1 = some r) ∧ Aside0 (kq ≤ k) ∧ Aside0 (Kd.R k114 114 w' w.heap.size (fun _ => True) v294 x3_1) ∧ Aside0 (Below w.heap.size w w'))
 case atStart => exact ⟨(y293),(0),Sr_,H',⟨Nat.le_refl _⟩,⟨Rk_ a5⟩,⟨Lb_⟩⟩
 case round =>
  clear H'
  try clear c2
  try clear c2b0
  try clear c2b1
  try clear p2
  try clear c3
  try clear c3b0
  try clear c3b1
  obtain ⟨x3_1,x4_1,rfl,HA,HK1,a1,HB⟩:=hrel
  cases gk with
  | zero => exact absurd HA.out (by simp [laws_toTalkS.l0])
  | succ k1 =>
   have H:=HA.out
   clear HA
   simp only [laws_toTalkS.l0] at H
   replace H:=iD_ H
   obtain ⟨c6b0,H⟩ | ⟨c6b0,H⟩:=H
   rotate_left
   ·obtain rfl:=Option.some.inj H
    go_wp2
    go_ret
    exact ⟨_,Er_,Rk_ a1,Lb_⟩
   rotate_right
   replace H:=iM_ H
   obtain ⟨c7b0,H⟩:=H
   replace H:=bS_ H
   obtain ⟨⟨t297,t298,t299,t300,t301,t302,t303,t304,t305,t306,t307,t308,t309,t310,t311,t312,t313,t314,t315,t316⟩,A8,H⟩:=H
   try dsimp only at H
   replace H:=iM_ H
   obtain ⟨c9b0,H⟩:=H
   obtain ⟨y317,hy317⟩ : ∃ y_ : List (S114),y_ = (x3_1.set (x4_1 : Int).toNat (⟨t297,t298,t299,t300,t301,t302,t303,t304,t305,t306,t307,(⟨t308,t309,t310,t311⟩ : S110),t312,t313,t314,(⟨t315,t316⟩ : S112)⟩ : S114)):=⟨_,rfl⟩
   replace H : (laws_toTalkS.l0 k1 l0 y317 (wrap64 (x4_1 + 1))) = some r:=by first | (rw [hy317];with_reducible exact H) | (have H2_:=(Option.bind_some _ _).symm.trans H;rw [hy317];with_reducible exact H2_) | (have H2_:=(Option.bind_some _ _).symm.trans H;with_reducible exact H2_) | with_reducible exact H | (rw [hy317];exact H) | exact H
   have a6:=Z_ hy317
   clear hy317
   have H':=Z_ H
   clear H
   have p296 : 0 ≤ (x4_1 : Int):=dA_
   have q296 : x4_1 < (l0.length : Int):=dA_
   obtain ⟨ad296,e296,hL296⟩:=at_L142 a8.out x4_1 p296 q296
   cases e296
   replace hL296:=RowAt.below (B:=0) hL296 HB.out
   replace p296:=eq_true p296
   replace q296:=eq_true q296
   go_wp2_with (first | ((with_reducible refine gate_load_ (t:=142) rfl ?_);refine load_row_ (by rfl) (by rfl) (by rfl) hL296 Tryz.underlying142 rfl size142_ ?_) | ((with_reducible refine gate_callee (f:=96) rfl ?_);refine goesA_ (some 20) rfl rfl Tryz.func96 (by kernel_rfl) rfl #[.agg #[.int .i64 ((rd_T142 l0 x4_1).f0),.int .i64 ((rd_T142 l0 x4_1).f1),.int .i64 ((rd_T142 l0 x4_1).f2),.int .i64 ((rd_T142 l0 x4_1).f3),.int .i64 ((rd_T142 l0 x4_1).f4),.int .i64 ((rd_T142 l0 x4_1).f5),.int .i64 ((rd_T142 l0 x4_1).f6),.int .i64 ((rd_T142 l0 x4_1).f7),.int .i64 ((rd_T142 l0 x4_1).f8),.int .i64 ((rd_T142 l0 x4_1).f9),.int .i64 ((rd_T142 l0 x4_1).f10),.int .i64 ((rd_T142 l0 x4_1).f11.f0),.int .i64 ((rd_T142 l0 x4_1).f11.f1),.int .i64 ((rd_T142 l0 x4_1).f11.f2),.int .i64 ((rd_T142 l0 x4_1).f11.f3),.int .i64 ((rd_T142 l0 x4_1).f12),.int .i64 ((rd_T142 l0 x4_1).f13),.int .i64 ((rd_T142 l0 x4_1).f14),.int .i64 ((rd_T142 l0 x4_1).f15.f0),.int .i64 ((rd_T142 l0 x4_1).f15.f1)]] rfl ?_;(with_reducible refine (laws_toTalk.calls ((rd_T142 l0 x4_1).f0) ((rd_T142 l0 x4_1).f1) ((rd_T142 l0 x4_1).f2) ((rd_T142 l0 x4_1).f3) ((rd_T142 l0 x4_1).f4) ((rd_T142 l0 x4_1).f5) ((rd_T142 l0 x4_1).f6) ((rd_T142 l0 x4_1).f7) ((rd_T142 l0 x4_1).f8) ((rd_T142 l0 x4_1).f9) ((rd_T142 l0 x4_1).f10) ((rd_T142 l0 x4_1).f11.f0) ((rd_T142 l0 x4_1).f11.f1) ((rd_T142 l0 x4_1).f11.f2) ((rd_T142 l0 x4_1).f11.f3) ((rd_T142 l0 x4_1).f12) ((rd_T142 l0 x4_1).f13) ((rd_T142 l0 x4_1).f14) ((rd_T142 l0 x4_1).f15.f0) ((rd_T142 l0 x4_1).f15.f1) t297 t298 t299 t300 t301 t302 t303 t304 t305 t306 t307 t308 t309 t310 t311 t312 t313 t314 t315 t316 _ A8.out).mono ?_);rintro e w11 ⟨rfl,hb⟩;refine ⟨_,rfl,?_⟩;replace a1:=Z_ (Kd.R_below a1.out hb);replace HB:=Z_ (lP_ HB.out hb);(try clear hb);have p10 : 0 ≤ (x4_1 : Int):=dA_;have q10 : (x4_1 : Int) < ((x3_1.length : Int) : Int):=dA_;obtain ⟨go10,a3,eo10,a4,gl10,cl10,HG10⟩:=Kd.R_form a1.out (by omega);(first | cases eo10 | (injection eo10 with ea_ en_ ec_;(first | subst ea_ | (injection ea_ with ea_;subst ea_));subst ec_;clear en_));have a0:=Z_ a4;have GG10:=Z_ HG10;clear a4 gl10 HG10;replace p10:=eq_true p10;replace q10:=eq_true q10;have HX12:=Z_ (show Kd.R k114 114 w11 w.heap.size (fun _ => True) (.slice (some ⟨go10,0,none⟩) x3_1.length a3) x3_1 from a1.out);obtain ⟨ce12,hcl12,hM12,hcc12,hfr12⟩:=Kd.R_elem HX12.out z114 (x4_1 : Int) (dA_) (by have h_ : (x4_1 : Int) < ((x3_1.length : Int) : Int):=dA_;first | exact h_ | (have e_:=(Kd.R_reads' a1.out).1;omega) | simpa using h_);obtain rfl:=k114_openM hM12;have HP12:=Kd.R_seg HX12.out (x4_1 : Int) (dA_) (by have h_ : (x4_1 : Int) < ((x3_1.length : Int) : Int):=dA_;first | exact h_ | (have e_:=(Kd.R_reads' a1.out).1;omega) | simpa using h_) (seg:=[.int .i64 t297,.int .i64 t298,.int .i64 t299,.int .i64 t300,.int .i64 t301,.int .i64 t302,.int .i64 t303,.int .i64 t304,.int .i64 t305,.int .i64 t306,.int .i64 t307,.int .i64 t308,.int .i64 t309,.int .i64 t310,.int .i64 t311,.int .i64 t312,.int .i64 t313,.int .i64 t314,.int .i64 t315,.int .i64 t316]) (j:=0) hcl12 hcc12 (show 20 ≤ 20 from by decide) (k114_mkM _ _ _ (⟨t297,t298,t299,t300,t301,t302,t303,t304,t305,t306,t307,(⟨t308,t309,t310,t311⟩ : S110),t312,t313,t314,(⟨t315,t316⟩ : S112)⟩ : S114) ) (fun _ hk => hk);have hT12 : ∀ j,j < 20 → (w11.cell? ⟨go10,(x4_1 : Int).toNat * 20 + j,none⟩).isSome = true ∧ w11.frozen? ⟨go10,(x4_1 : Int).toNat * 20 + j,none⟩ = false:=fun j hj => ⟨(congrArg Option.isSome (hcc12 j _ (List.getElem?_eq_getElem hj))).trans rfl,hfr12 j⟩;clear hcl12 hcc12 hfr12 hM12) | ((with_reducible refine gate_store (t:=114) (p:=21) rfl ?_);refine store_event (t:=114) (p:=21) (v:=?vo_w13) (w1:=w11.setCells go10 ((x4_1 : Int).toNat * 20) [.int .i64 t297,.int .i64 t298,.int .i64 t299,.int .i64 t300,.int .i64 t301,.int .i64 t302,.int .i64 t303,.int .i64 t304,.int .i64 t305,.int .i64 t306,.int .i64 t307,.int .i64 t308,.int .i64 t309,.int .i64 t310,.int .i64 t311,.int .i64 t312,.int .i64 t313,.int .i64 t314,.int .i64 t315,.int .i64 t316]) ?hg ?ho ?hn ?hr ?_;(case ho => rfl);(case hg => rfl);(case hn => rfl);(case hr => exact exec_storeRow (by rfl) (by rfl) (by rfl) hT12 size114_ (by rfl));intro w13 hw;have hg : w11.grownBy w13 (some go10):=(by rw [hw];exact HP12.2);have hp_ : Kd.R k114 114 w13 w.heap.size (fun _ => True) (.slice (some ⟨go10,0,none⟩) x3_1.length a3) y317:=(by rw [hw,a6.out];exact HP12.1);clear HP12;replace a1:=Z_ (hp_);replace HB:=Z_ ((by rw [hw];exact lSs_ HB.out a0.out : Below w.heap.size w w13));clear hg hw hp_))
   go_roundg k1
   case measure => have:=HK1.out;omega
   case rel => exact ⟨(y317),(wrap64 (x4_1 + 1)),Sr_,H',⟨by have:=HK1.out;omega⟩,⟨Rk_ a1⟩,⟨Lb_⟩⟩
def laws_toGate.f (k : Nat) (a0_0 a0_1 : Int) (l0_2 : List (S142)) : Option (Int × Int × (List (S114))):=(laws_toTalkS.f k l0_2).bind fun t321 => (some (a0_0,a0_1,t321))
set_option maxHeartbeats 8000000 in
set_option maxRecDepth 100000 in
theorem laws_toGate.calls (k : Nat) (a0_0 a0_1 : Int) (A0_2 : Option Addr) (c0_2 : Nat) (l0_2 : List (S142)) (r1 r2 : Int) (r3 : List (S114)) (w : World) (hr0_2 : Kd.C k142 w A0_2 l0_2.length l0_2) (hc0_2 : l0_2.length ≤ c0_2) (h : laws_toGate.f k a0_0 a0_1 l0_2 = some (r1,r2,r3)) :
  Calls Tryz.prog 50 #[.agg #[.int .i64 a0_0,.int .i64 a0_1,.slice A0_2 l0_2.length c0_2]] w fun e w' => ∃ v2_ : Value,e = .returned (.agg #[.int .i64 r1,.int .i64 r2,v2_]) ∧ Kd.R k114 114 w' w.heap.size (fun _ => True) v2_ r3 ∧ Below w.heap.size w w':=by
 have hu71:=Tryz.underlying71
 have hu76:=Tryz.underlying76
 have HR0_2:=Z_ hr0_2
 have HC0_2:=Z_ hc0_2
 clear hr0_2 hc0_2
 have HB:=Z_ (Below.refl w.heap.size w)
 unfold laws_toGate.f at h
 have H:=h
 clear h
 replace H:=bS_ H
 obtain ⟨t321,A2,H⟩:=H
 simp only [Option.some.injEq,Prod.mk.injEq] at H
 obtain ⟨rfl,rfl,rfl⟩:=H
 go_enter Tryz.func50,Tryz.ntmps50
 go_wp2_with (first | ((with_reducible refine gD_ 1 rfl ?_);refine bx_ #[.int .i64 a0_0,.int .i64 a0_1,.slice A0_2 l0_2.length c0_2] 71 ?_;intro a9 hg w3 hbox hb;have a1:=Z_ hbox;have a6:=Z_ ((by rw [hg];exact (below_size HB.out) : w.heap.size ≤ a9));replace HB:=Z_ (lP_ HB.out hb);clear hb hbox hg) | ((with_reducible refine gD_ 2 rfl ?_);refine bx_ #[.int .i64 0,.int .i64 0,.slice none 0 0] 76 ?_;intro a3 hg w4 hbox hb;have a0:=Z_ hbox;have a7:=Z_ ((by rw [hg];exact (below_size HB.out) : w.heap.size ≤ a3));replace HB:=Z_ (lP_ HB.out hb);have aa:=Z_ ((by rw [hg];exact Nat.ne_of_lt (blk_lt a1.out) : a9 ≠ a3));replace a1:=Z_ (bB_ a1.out hb);have ab:=Z_ aa.out.symm;clear hb hbox hg) | ((with_reducible refine gD_ 3 rfl ?_);refine bx_ #[.int .i64 0,.int .i64 0,.slice none 0 0] 76 ?_;intro a5 hg w5 hbox hb;have a4:=Z_ hbox;have a8:=Z_ ((by rw [hg];exact (below_size HB.out) : w.heap.size ≤ a5));replace HB:=Z_ (lP_ HB.out hb);have ac:=Z_ ((by rw [hg];exact Nat.ne_of_lt (blk_lt a1.out) : a9 ≠ a5));replace a1:=Z_ (bB_ a1.out hb);have ad:=Z_ ac.out.symm;have a2:=Z_ ((by rw [hg];exact Nat.ne_of_lt (blk_lt a0.out) : a3 ≠ a5));replace a0:=Z_ (bB_ a0.out hb);have ae:=Z_ a2.out.symm;clear hb hbox hg;have aj:=aa.out;have ak:=ab.out;have al:=ac.out;have am:=ad.out;obtain ⟨_,_,_,_,_,_⟩:=bc3 a1.out;have an:=ae.out;have ao:=a2.out;obtain ⟨_,_,_,_,_,_⟩:=bc3 a4.out) | ((with_reducible refine gate_callee (f:=79) rfl ?_);refine goesA_ (some 12) rfl rfl Tryz.func79 (by kernel_rfl) rfl #[.slice A0_2 l0_2.length c0_2] rfl ?_;(with_reducible refine (laws_toTalkS.calls k _ _ l0_2 t321 _ ?side1 ?side2 A2.out).mono ?_);(case side1 => exact Kd.C_below HR0_2.out Lb_);(case side2 => exact HC0_2.out);rintro e w11 ⟨v322,rfl,ho0,hb⟩;refine ⟨_,rfl,?_⟩;have af:=Z_ (Kd.R_lower ho0 (below_size Lb_));replace a0:=Z_ (bB_ (g:=a3) (o:=.cells #[.int .i64 0,.int .i64 0,.slice none 0 0] 76 (0,0)) (by (iterate 2 (refine bF_ ?_ a2.out _));exact a0.out) hb);replace a4:=Z_ (bB_ (g:=a5) (o:=.cells #[.int .i64 a0_0,.int .i64 a0_1,.slice none 0 0] 76 (0,0)) (by refine blk_put (cs:=#[.int .i64 a0_0,.int .i64 0,.slice none 0 0]) ?_ 1 _ rfl;refine blk_put (cs:=#[.int .i64 0,.int .i64 0,.slice none 0 0]) ?_ 0 _ rfl;exact a4.out) hb);replace HB:=Z_ (lP_ Lb_ hb);(try clear hb);(try clear ho0);obtain ⟨ag,ah,eo12⟩:=Kd.R_slice af.out;subst eo12;obtain ⟨_,_,_,_,_,_⟩:=bc3 a4.out;obtain ⟨_,_,_,_,_,_⟩:=bc3 a0.out))
 refine bodyPost_ret (results_cell_row rfl _ _ a3 76 #[.int .i64 a0_0,.int .i64 a0_1,.slice ag t321.length ah] (0,0) _ rfl (by (with_reducible repeat first | apply bN_ | apply bD_ | apply bA_);apply fill3;(with_reducible repeat first | apply bN_ | apply bD_ | apply bA_);refine bF_ ?_ a2.out _;(with_reducible repeat first | apply bN_ | apply bD_ | apply bA_);exact a0.out) Tryz.underlying76 rfl (by kernel_rfl)) rfl ?_
 exact ⟨_,Er_,by (with_reducible repeat first | apply rA_ | apply rN_ | apply rD_);exact Kd.R_mono (rfar3 (g:=a3) (Kd.R_far (p:=⟨a5,2,none⟩) (Kd.R_types (Kd.R_types af.out a4.out (by decide)) a0.out (by decide)) (fun _ hk => hk.1.2) (.slice ag t321.length ah)) (fun _ hk => hk.2)) (fun _ hk => trivial),Lb_⟩
def laws_toGateS.l0 : Nat → List (S71) → List (S76) → Int → Option ((List (S76)))
 | 0,_,_,_ => none
 | k + 1,x0,x3,x4 => if x4 < (x0.length : Int) then (if 0 ≤ x4 then ((laws_toGate.f k ((rd_T71 x0 x4).f0) ((rd_T71 x0 x4).f1) ((rd_T71 x0 x4).f2)).bind fun bt328 => (if x4 < (x3.length : Int) then (laws_toGateS.l0 k x0 (x3.set (x4 : Int).toNat (⟨bt328.1,bt328.2.1,bt328.2.2⟩ : S76)) (wrap64 (x4 + 1))) else (none))) else (none)) else (some x3)
def laws_toGateS.f (k : Nat) (l0 : List (S71)) : Option ((List (S76))):=if 0 ≤ (l0.length : Int) then (if ((l0.length : Int) : Int).toNat ≤ 7036874417766 then (laws_toGateS.l0 k l0 (List.replicate ((l0.length : Int) : Int).toNat z76) 0) else (none)) else (none)
set_option maxHeartbeats 8000000 in
set_option maxRecDepth 100000 in
theorem laws_toGateS.calls (k : Nat) (A0 : Option Addr) (c0 : Nat) (l0 : List (S71)) (r : List (S76)) (w : World) (hr0 : Kd.C k71 w A0 l0.length l0) (hc0 : l0.length ≤ c0) (h : laws_toGateS.f k l0 = some r) :
  Calls Tryz.prog 24 #[.slice A0 l0.length c0] w fun e w' => ∃ v0_ : Value,e = .returned (v0_) ∧ Kd.S k76 76 w' w.heap.size (fun _ => True) v0_ r ∧ Below w.heap.size w w':=by
 have hu71:=Tryz.underlying71
 have hu76:=Tryz.underlying76
 have a9:=Z_ hr0
 have aa:=Z_ hc0
 clear hr0 hc0
 have HB:=Z_ (Below.refl w.heap.size w)
 unfold laws_toGateS.f at h
 have H:=h
 clear h
 replace H:=iN_ H
 obtain ⟨c2,H⟩:=H
 have c2b0:=eq_true c2
 have c2b1 : decide (0 ≤ (l0.length : Int)) = true:=decide_eq_true c2
 clear c2
 replace H:=iN_ H
 obtain ⟨c3,H⟩:=H
 have c3b0:=eq_true c3
 have c3b1 : decide (((l0.length : Int) : Int).toNat ≤ 7036874417766) = true:=decide_eq_true c3
 clear c3
 obtain ⟨y324,hy324⟩ : ∃ y_ : List (S76),y_ = (List.replicate ((l0.length : Int) : Int).toNat z76):=⟨_,rfl⟩
 replace H : (laws_toGateS.l0 k l0 y324 0) = some r:=by first | (rw [hy324];with_reducible exact H) | (have H2_:=(Option.bind_some _ _).symm.trans H;rw [hy324];with_reducible exact H2_) | (have H2_:=(Option.bind_some _ _).symm.trans H;with_reducible exact H2_) | with_reducible exact H | (rw [hy324];exact H) | exact H
 have a3:=Z_ hy324
 clear hy324
 have H':=Z_ H
 clear H
 go_enter Tryz.func24,Tryz.ntmps24
 go_wp2_with (first | ((with_reducible refine gD_ 7 rfl ?_);refine Kd.S_make k76 _ 76 rfl (N:=7) rfl 31 _ _ rfl (l0.length : Int) rfl rfl Tryz.underlying31 (.agg #[(.int .i64 0),(.int .i64 0),(.slice none 0 0)]) 40 info76 rfl (by decide) (by omega) z76 (ok:=fun _ => True) (okp:=fun _ => True) (k76_mkM _ _ _ z76 (Kd.R_nil _ _ _ _ _)) (fun _ hk => hk) trivial (dA_) (Nat.le_trans (Nat.mul_le_mul_right _ (dA_ : (l0.length : Int).toNat ≤ 7036874417766)) (by omega)) (Below.refl _ _) (Nat.le_refl _) ?_;intro v325 w4 ho5 hb hg_ hnew_;clear hg_ hnew_;(first | rw [← a3.out] at ho5 | (simp only [Int.reduceToNat] at ho5;rw [← a3.out] at ho5));have a6:=Z_ (Kd.S_lower ho5 (below_size HB.out));replace HB:=Z_ (lP_ HB.out hb);clear hb ho5))
 go_loopg [4] k (fun kq v4 w' => ∃ (x3_1 : List (S76)) (x4_1 : Int),v4 = .int .i64 x4_1 ∧ Aside0 (laws_toGateS.l0 kq l0 x3_1 x4_1 = some r) ∧ Aside0 (kq ≤ k) ∧ Aside0 (Kd.S k76 76 w' w.heap.size (fun _ => True) v325 x3_1) ∧ Aside0 (Below w.heap.size w w'))
 case atStart => exact ⟨(y324),(0),Sr_,H',⟨Nat.le_refl _⟩,⟨Sk_ a6⟩,⟨Lb_⟩⟩
 case round =>
  clear H'
  try clear c2
  try clear c2b0
  try clear c2b1
  try clear p2
  try clear c3
  try clear c3b0
  try clear c3b1
  obtain ⟨x3_1,x4_1,rfl,HA,HK1,a0,HB⟩:=hrel
  cases gk with
  | zero => exact absurd HA.out (by simp [laws_toGateS.l0])
  | succ k1 =>
   have H:=HA.out
   clear HA
   simp only [laws_toGateS.l0] at H
   replace H:=iD_ H
   obtain ⟨c6b0,H⟩ | ⟨c6b0,H⟩:=H
   rotate_left
   ·obtain rfl:=Option.some.inj H
    go_wp2
    go_ret
    exact ⟨_,Er_,Sk_ a0,Lb_⟩
   rotate_right
   replace H:=iM_ H
   obtain ⟨c7b0,H⟩:=H
   replace H:=bS_ H
   obtain ⟨⟨t328,t329,t330⟩,A8,H⟩:=H
   try dsimp only at H
   replace H:=iM_ H
   obtain ⟨c9b0,H⟩:=H
   obtain ⟨y333,hy333⟩ : ∃ y_ : List (S76),y_ = (x3_1.set (x4_1 : Int).toNat (⟨t328,t329,t330⟩ : S76)):=⟨_,rfl⟩
   replace H : (laws_toGateS.l0 k1 l0 y333 (wrap64 (x4_1 + 1))) = some r:=by first | (rw [hy333];with_reducible exact H) | (have H2_:=(Option.bind_some _ _).symm.trans H;rw [hy333];with_reducible exact H2_) | (have H2_:=(Option.bind_some _ _).symm.trans H;with_reducible exact H2_) | with_reducible exact H | (rw [hy333];exact H) | exact H
   have a7:=Z_ hy333
   clear hy333
   have H':=Z_ H
   clear H
   have p327 : 0 ≤ (x4_1 : Int):=dA_
   have q327 : x4_1 < (l0.length : Int):=dA_
   obtain ⟨ad327,A327_2,c327_2,e327,hx327_0,hx327_1,hx327_2,hl327_2,hi327_2⟩:=at_T71 a9.out x4_1 p327 q327
   cases e327
   replace hx327_0:=cB_ HB hx327_0
   replace hx327_1:=cB_ HB hx327_1
   replace hx327_2:=cB_ HB hx327_2
   have HR327_2:=Z_ hi327_2
   have HC327_2:=Z_ hl327_2
   clear hi327_2 hl327_2
   replace p327:=eq_true p327
   replace q327:=eq_true q327
   go_wp2_with (first | ((with_reducible refine gate_callee (f:=50) rfl ?_);refine goesA_ (some 20) rfl rfl Tryz.func50 (by kernel_rfl) rfl #[.agg #[.int .i64 ((rd_T71 l0 x4_1).f0),.int .i64 ((rd_T71 l0 x4_1).f1),.slice A327_2 ((rd_T71 l0 x4_1).f2).length c327_2]] rfl ?_;(with_reducible refine (laws_toGate.calls k1 ((rd_T71 l0 x4_1).f0) ((rd_T71 l0 x4_1).f1) _ _ ((rd_T71 l0 x4_1).f2) t328 t329 t330 _ ?side1 ?side2 A8.out).mono ?_);(case side1 => exact Cb_ HR327_2);(case side2 => exact HC327_2.out);rintro e w11 ⟨v331,rfl,ho0,hb⟩;refine ⟨_,rfl,?_⟩;replace a0:=Z_ (Kd.S_elder' (Sk_ a0) (Kd.R_base ho0) hb);have a1:=Z_ (Kd.R_lower ho0 (below_size HB.out));replace HB:=Z_ (lP_ HB.out hb);(try clear hb);(try clear ho0);have p10 : 0 ≤ (x4_1 : Int):=dA_;have q10 : (x4_1 : Int) < ((x3_1.length : Int) : Int):=dA_;obtain ⟨go10,a4,eo10,a5,gl10,cl10,HG10⟩:=Kd.S_form a0.out (by omega);(first | cases eo10 | (injection eo10 with ea_ en_ ec_;(first | subst ea_ | (injection ea_ with ea_;subst ea_));subst ec_;clear en_));have a2:=Z_ a5;have GG10:=Z_ HG10;clear a5 gl10 HG10;obtain ⟨_,ce10,hcl10,hM10,hcc10,hfr10,_,_⟩:=Kd.S_elem a0.out z76 (x4_1 : Int) p10 q10;obtain ⟨ve10_2,rfl,ge10_2⟩:=k76_openM hM10;have hx10_0 : w11.cell? ⟨go10,(x4_1 : Int).toNat * 3,none⟩ = some (.int .i64 ((rd_T76 x3_1 x4_1).f0)):=hcc10 0 _ rfl;have hx10_1 : w11.cell? ⟨go10,(x4_1 : Int).toNat * 3 + 1,none⟩ = some (.int .i64 ((rd_T76 x3_1 x4_1).f1)):=hcc10 1 _ rfl;have hx10_2 : w11.cell? ⟨go10,(x4_1 : Int).toNat * 3 + 2,none⟩ = some (ve10_2):=hcc10 2 _ rfl;have hf10_0 : w11.frozen? ⟨go10,(x4_1 : Int).toNat * 3,none⟩ = false:=hfr10 0;have hf10_1 : w11.frozen? ⟨go10,(x4_1 : Int).toNat * 3 + 1,none⟩ = false:=hfr10 1;have hf10_2 : w11.frozen? ⟨go10,(x4_1 : Int).toNat * 3 + 2,none⟩ = false:=hfr10 2;clear hcl10 hcc10 hfr10 hM10;replace p10:=eq_true p10;replace q10:=eq_true q10;have n_:=Z_ (Kd.S_mono (ok':=(fun k_ => some k_ ≠ (v331 : Value).ownBlock)) a0.out (fun k_ hk => hk.2));clear a0;have a0:=n_;clear n_;have HX12:=Z_ (show Kd.S k76 76 w11 w.heap.size (fun k_ => ((fun _ => True)) k_ ∧ ¬ ((fun k_ => some k_ = (v331 : Value).ownBlock)) k_) (.slice (some ⟨go10,0,none⟩) x3_1.length a4) x3_1 from (by (with_reducible repeat (first | apply Kd.S_alloc | apply Kd.S_drewN | apply Kd.S_drew));exact Kd.S_mono a0.out (fun k_ hk => ⟨trivial,fun e_ => hk e_⟩)));obtain ⟨oki12,ce12,hcl12,hM12,hcc12,hfr12,hoki12,hH12⟩:=Kd.S_elem HX12.out z76 (x4_1 : Int) (dA_) (by have h_ : (x4_1 : Int) < ((x3_1.length : Int) : Int):=dA_;first | exact h_ | (have e_:=(Kd.S_reads' a0.out).1;omega) | simpa using h_);obtain ⟨ve12_2,rfl,ge12_2⟩:=k76_openM hM12;have HP12:=Kd.S_seg hH12 (dA_) (by have h_ : (x4_1 : Int) < ((x3_1.length : Int) : Int):=dA_;first | exact h_ | (have e_:=(Kd.S_reads' a0.out).1;omega) | simpa using h_) (seg:=[.int .i64 t328,.int .i64 t329,v331]) (j:=0) (show 3 ≤ 3 from by decide) (x':=(⟨t328,t329,t330⟩ : S76)) (k76_mkM _ _ _ (⟨t328,t329,t330⟩ : S76) (Kd.R_mono (Kd.R_tight rfl (Kd.R_mono (ok':=fun k_ => ((fun _ => True)) k_ ∧ k_ ≠ go10) (Kd.R_apart' (a1.out) (Kd.S_typed a0.out) (by decide)) (fun k_ hk => ⟨trivial,fun e_ => (hk.2) (by rw [e_];rfl)⟩))) (fun _ h_ => Or.inr (h_)))) (fun _ hk => hk) (fun k_ hk_ => ((Kd.R_mono (ok':=fun k_ => ((fun _ => True)) k_ ∧ k_ ≠ go10) (Kd.R_apart' (a1.out) (Kd.S_typed a0.out) (by decide)) (fun k_ hk => ⟨trivial,fun e_ => (hk.2) (by rw [e_];rfl)⟩))).1 k_ hk_.symm);have hx12_0:=hcc12 0 _ rfl;(try simp only [show (k76).sz = 3 from rfl,Nat.mul_one,Nat.add_zero] at hx12_0);have hf12_0:=hfr12 0;(try simp only [show (k76).sz = 3 from rfl,Nat.mul_one,Nat.add_zero] at hf12_0);have hx12_1:=hcc12 1 _ rfl;(try simp only [show (k76).sz = 3 from rfl,Nat.mul_one,Nat.add_zero] at hx12_1);have hf12_1:=hfr12 1;(try simp only [show (k76).sz = 3 from rfl,Nat.mul_one,Nat.add_zero] at hf12_1);have hx12_2:=hcc12 2 _ rfl;(try simp only [show (k76).sz = 3 from rfl,Nat.mul_one,Nat.add_zero] at hx12_2);have hf12_2:=hfr12 2;(try simp only [show (k76).sz = 3 from rfl,Nat.mul_one,Nat.add_zero] at hf12_2);clear hcl12 hcc12 hfr12 hM12 hoki12 hH12) | ((with_reducible refine gate_store (t:=76) (p:=21) rfl ?_);obtain ⟨Av_,cv_,ev_⟩:=Kd.R_slice a1.out;subst ev_;refine store_event (t:=76) (p:=21) (v:=?vo_w13) (w1:=(((w11.setCell ⟨go10,(x4_1 : Int).toNat * 3,none⟩ (.int .i64 t328)).setCell ⟨go10,(x4_1 : Int).toNat * 3 + 1,none⟩ (.int .i64 t329)).setCell ⟨go10,(x4_1 : Int).toNat * 3 + 2,none⟩ (.slice Av_ t330.length cv_))) ?hg ?ho ?hn ?hr ?_;(case ho => rfl);(case hg => rfl);(case hn => rfl);(case hr => first | (go_simp;done) | (go_simp;rfl));intro w13 hw;have hg : w11.grownBy w13 (some go10):=(by rw [hw];exact HP12.2);have hp_ : Kd.S k76 76 w13 w.heap.size (fun _ => True) (.slice (some ⟨go10,0,none⟩) x3_1.length a4) y333:=(by rw [hw,a7.out];exact HP12.1);clear HP12;replace a0:=Z_ (hp_);replace HB:=Z_ ((by rw [hw];exact lS1_ (lS1_ (lS1_ (HB.out) a2.out) a2.out) a2.out : Below w.heap.size w w13));clear a1 hg hw hp_))
   go_roundg k1
   case measure => have:=HK1.out;omega
   case rel => exact ⟨(y333),(wrap64 (x4_1 + 1)),Sr_,H',⟨by have:=HK1.out;omega⟩,⟨Sk_ a0⟩,⟨Lb_⟩⟩
def laws_toInt64S.l0 : Nat → List Int → List Int → Int → Option (List Int)
 | 0,_,_,_ => none
 | k + 1,x0,x3,x4 => if x4 < (x0.length : Int) then (if 0 ≤ x4 then (if x4 < (x3.length : Int) then (laws_toInt64S.l0 k x0 (x3.set (x4 : Int).toNat (rd x0 x4)) (wrap64 (x4 + 1))) else (none)) else (none)) else (some x3)
def laws_toInt64S.f (k : Nat) (l0 : List Int) : Option (List Int):=if 0 ≤ (l0.length : Int) then (if ((l0.length : Int) : Int).toNat ≤ 35184372088832 then (laws_toInt64S.l0 k l0 (List.replicate ((l0.length : Int) : Int).toNat 0) 0) else (none)) else (none)
set_option maxHeartbeats 8000000 in
set_option maxRecDepth 100000 in
theorem laws_toInt64S.calls (k : Nat) (A0 : Option Addr) (c0 : Nat) (l0 r : List Int) (w : World) (hr0 : Kd.C (Kd.int .i64) w A0 l0.length l0) (hc0 : l0.length ≤ c0) (h : laws_toInt64S.f k l0 = some r) :
  Calls Tryz.prog 25 #[.slice A0 l0.length c0] w fun e w' => ∃ v0_ : Value,e = .returned (v0_) ∧ Kd.R (Kd.int .i64) 2 w' w.heap.size (fun _ => True) v0_ r ∧ Below w.heap.size w w':=by
 have a5:=Z_ hr0
 have a8:=Z_ hc0
 clear hr0 hc0
 have HB:=Z_ (Below.refl w.heap.size w)
 unfold laws_toInt64S.f at h
 have H:=h
 clear h
 replace H:=iN_ H
 obtain ⟨c2,H⟩:=H
 have c2b0:=eq_true c2
 have c2b1 : decide (0 ≤ (l0.length : Int)) = true:=decide_eq_true c2
 clear c2
 replace H:=iN_ H
 obtain ⟨c3,H⟩:=H
 have c3b0:=eq_true c3
 have c3b1 : decide (((l0.length : Int) : Int).toNat ≤ 35184372088832) = true:=decide_eq_true c3
 clear c3
 obtain ⟨y334,hy334⟩ : ∃ y_ : List Int,y_ = (List.replicate ((l0.length : Int) : Int).toNat 0):=⟨_,rfl⟩
 replace H : (laws_toInt64S.l0 k l0 y334 0) = some r:=by first | (rw [hy334];with_reducible exact H) | (have H2_:=(Option.bind_some _ _).symm.trans H;rw [hy334];with_reducible exact H2_) | (have H2_:=(Option.bind_some _ _).symm.trans H;with_reducible exact H2_) | with_reducible exact H | (rw [hy334];exact H) | exact H
 have a1:=Z_ hy334
 clear hy334
 have H':=Z_ H
 clear H
 go_enter Tryz.func25,Tryz.ntmps25
 go_wp2_with (first | ((with_reducible refine gD_ 7 rfl ?_);refine Kd.R_make (Kd.int .i64) _ 2 rfl (N:=7) rfl 24 _ _ rfl (l0.length : Int) rfl rfl Tryz.underlying24 (.int .i64 0) 8 info2 rfl (by decide) (by omega) 0 (ok:=fun _ => True) (okp:=fun _ => True) rfl (fun _ hk => hk) trivial (dA_) (Nat.le_trans (Nat.mul_le_mul_right _ (dA_ : (l0.length : Int).toNat ≤ 35184372088832)) (by omega)) (Below.refl _ _) (Nat.le_refl _) ?_;intro v335 w4 ho5 hb hg_ hnew_;clear hg_ hnew_;(first | rw [← a1.out] at ho5 | (simp only [Int.reduceToNat] at ho5;rw [← a1.out] at ho5));have a2:=Z_ (Kd.R_lower ho5 (below_size HB.out));replace HB:=Z_ (lP_ HB.out hb);clear hb ho5))
 go_loopg [4] k (fun kq v4 w' => ∃ (x3_1 : List Int) (x4_1 : Int),v4 = .int .i64 x4_1 ∧ Aside0 (laws_toInt64S.l0 kq l0 x3_1 x4_1 = some r) ∧ Aside0 (kq ≤ k) ∧ Aside0 (Kd.R (Kd.int .i64) 2 w' w.heap.size (fun _ => True) v335 x3_1) ∧ Aside0 (Below w.heap.size w w'))
 case atStart => exact ⟨(y334),(0),Sr_,H',⟨Nat.le_refl _⟩,⟨Rk_ a2⟩,⟨Lb_⟩⟩
 case round =>
  clear H'
  try clear c2
  try clear c2b0
  try clear c2b1
  try clear p2
  try clear c3
  try clear c3b0
  try clear c3b1
  obtain ⟨x3_1,x4_1,rfl,HA,HK1,a0,HB⟩:=hrel
  cases gk with
  | zero => exact absurd HA.out (by simp [laws_toInt64S.l0])
  | succ k1 =>
   have H:=HA.out
   clear HA
   simp only [laws_toInt64S.l0] at H
   replace H:=iD_ H
   obtain ⟨c6b0,H⟩ | ⟨c6b0,H⟩:=H
   rotate_left
   ·obtain rfl:=Option.some.inj H
    go_wp2
    go_ret
    exact ⟨_,Er_,Rk_ a0,Lb_⟩
   rotate_right
   replace H:=iM_ H
   obtain ⟨c7b0,H⟩:=H
   replace H:=iM_ H
   obtain ⟨c8b0,H⟩:=H
   obtain ⟨y338,hy338⟩ : ∃ y_ : List Int,y_ = (x3_1.set (x4_1 : Int).toNat (rd l0 x4_1)):=⟨_,rfl⟩
   replace H : (laws_toInt64S.l0 k1 l0 y338 (wrap64 (x4_1 + 1))) = some r:=by first | (rw [hy338];with_reducible exact H) | (have H2_:=(Option.bind_some _ _).symm.trans H;rw [hy338];with_reducible exact H2_) | (have H2_:=(Option.bind_some _ _).symm.trans H;with_reducible exact H2_) | with_reducible exact H | (rw [hy338];exact H) | exact H
   have a3:=Z_ hy338
   clear hy338
   have H':=Z_ H
   clear H
   have p337 : 0 ≤ (x4_1 : Int):=dA_
   have q337 : x4_1 < (l0.length : Int):=dA_
   obtain ⟨ad337,e337,hx337_0⟩:=Kd.at_int a5.out x4_1 p337 q337
   cases e337
   replace hx337_0:=cB_ HB hx337_0
   replace p337:=eq_true p337
   replace q337:=eq_true q337
   have p9 : 0 ≤ (x4_1 : Int):=dA_
   have q9 : (x4_1 : Int) < ((x3_1.length : Int) : Int):=dA_
   obtain ⟨go9,a6,eo9,a4,gl9,cl9,HG9⟩:=Kd.R_form a0.out (by omega)
   (first | cases eo9 | (injection eo9 with ea_ en_ ec_;(first | subst ea_ | (injection ea_ with ea_;subst ea_));subst ec_;clear en_))
   have a7:=Z_ a4
   have GG9:=Z_ HG9
   clear a4 gl9 HG9
   obtain ⟨hx9_0,hf9_0⟩:=Kd.R_celln 0 a0.out (x4_1 : Int) p9 q9
   replace p9:=eq_true p9
   replace q9:=eq_true q9
   have HP10:=Kd.R_putg a0.out (x4_1 : Int) (rd l0 x4_1)
   go_wp2_with (first | ((with_reducible refine gate_store (t:=2) (p:=20) rfl ?_);refine store_event (t:=2) (p:=20) (v:=?vo_w11) (w1:=(wr.setCell ⟨go9,(x4_1 : Int).toNat,none⟩ (.int .i64 (rd l0 x4_1)))) ?hg ?ho ?hn ?hr ?_;(case ho => rfl);(case hg => rfl);(case hn => rfl);(case hr => first | (go_simp;done) | (go_simp;rfl));intro w11 hw;have hg : wr.grownBy w11 (some go9):=(by rw [hw];exact HP10.2);have hp_ : Kd.R (Kd.int .i64) 2 w11 w.heap.size (fun _ => True) (.slice (some ⟨go9,0,none⟩) x3_1.length a6) y338:=(by rw [hw,a3.out];exact HP10.1);clear HP10;replace a0:=Z_ (hp_);replace HB:=Z_ ((by rw [hw];exact lS1_ (HB.out) a7.out : Below w.heap.size w w11));clear hg hw hp_))
   go_roundg k1
   case measure => have:=HK1.out;omega
   case rel => exact ⟨(y338),(wrap64 (x4_1 + 1)),Sr_,H',⟨by have:=HK1.out;omega⟩,⟨Rk_ a0⟩,⟨Lb_⟩⟩
def laws_toGiven.f (a0_0 a0_1 a0_2 a0_3 : Int) : Option (Int × Int × Int × Int):=some (a0_0,a0_1,a0_2,a0_3)
set_option maxHeartbeats 8000000 in
set_option maxRecDepth 100000 in
theorem laws_toGiven.calls (a0_0 a0_1 a0_2 a0_3 r1 r2 r3 r4 : Int) (w : World) (h : laws_toGiven.f a0_0 a0_1 a0_2 a0_3 = some (r1,r2,r3,r4)) :
  Calls Tryz.prog 51 #[.agg #[.int .i64 a0_0,.int .i64 a0_1,.int .i64 a0_2,.int .i64 a0_3]] w fun e w' => e = .returned (.agg #[.int .i64 r1,.int .i64 r2,.int .i64 r3,.int .i64 r4]) ∧ Below w.heap.size w w':=by
 have hu90:=Tryz.underlying90
 have hu88:=Tryz.underlying88
 have HB:=Z_ (Below.refl w.heap.size w)
 unfold laws_toGiven.f at h
 have H:=h
 clear h
 simp only [Option.some.injEq,Prod.mk.injEq] at H
 obtain ⟨rfl,rfl,rfl,rfl⟩:=H
 go_enter Tryz.func51,Tryz.ntmps51
 go_wp2_with (first | ((with_reducible refine gD_ 1 rfl ?_);refine bx_ #[.int .i64 a0_0,.int .i64 a0_1,.int .i64 a0_2,.int .i64 a0_3] 90 ?_;intro gb339 hg w2 hbox hb;have BK339:=Z_ hbox;have GE339:=Z_ ((by rw [hg];exact (below_size HB.out) : w.heap.size ≤ gb339));replace HB:=Z_ (lP_ HB.out hb);clear hb hbox hg) | ((with_reducible refine gD_ 2 rfl ?_);refine bx_ #[.int .i64 0,.int .i64 0,.int .i64 0,.int .i64 0] 88 ?_;intro gb340 hg w3 hbox hb;have BK340:=Z_ hbox;have GE340:=Z_ ((by rw [hg];exact (below_size HB.out) : w.heap.size ≤ gb340));replace HB:=Z_ (lP_ HB.out hb);have NB339_340:=Z_ ((by rw [hg];exact Nat.ne_of_lt (blk_lt BK339.out) : gb339 ≠ gb340));replace BK339:=Z_ (bB_ BK339.out hb);have NB340_339:=Z_ NB339_340.out.symm;clear hb hbox hg) | ((with_reducible refine gD_ 3 rfl ?_);refine bx_ #[.int .i64 0,.int .i64 0,.int .i64 0,.int .i64 0] 88 ?_;intro gb341 hg w4 hbox hb;have BK341:=Z_ hbox;have GE341:=Z_ ((by rw [hg];exact (below_size HB.out) : w.heap.size ≤ gb341));replace HB:=Z_ (lP_ HB.out hb);have NB339_341:=Z_ ((by rw [hg];exact Nat.ne_of_lt (blk_lt BK339.out) : gb339 ≠ gb341));replace BK339:=Z_ (bB_ BK339.out hb);have NB341_339:=Z_ NB339_341.out.symm;have NB340_341:=Z_ ((by rw [hg];exact Nat.ne_of_lt (blk_lt BK340.out) : gb340 ≠ gb341));replace BK340:=Z_ (bB_ BK340.out hb);have NB341_340:=Z_ NB340_341.out.symm;clear hb hbox hg;have hnb5:=NB339_340.out;have hnc5:=NB340_339.out;have hnb6:=NB339_341.out;have hnc6:=NB341_339.out;obtain ⟨_,_,_,_,_,_,_,_⟩:=bc4 BK339.out;have hnb8:=NB341_340.out;have hnc8:=NB340_341.out;obtain ⟨_,_,_,_,_,_,_,_⟩:=bc4 BK341.out;obtain ⟨_,_,_,_,_,_,_,_⟩:=bc4 BK340.out))
 refine bodyPost_ret (results_cell_row rfl _ _ gb340 88 #[.int .i64 a0_0,.int .i64 a0_1,.int .i64 a0_2,.int .i64 a0_3] (0,0) _ rfl (by (with_reducible repeat first | apply bN_ | apply bD_ | apply bA_);apply fill4;(iterate 4 ((with_reducible repeat first | apply bN_ | apply bD_ | apply bA_);refine bF_ ?_ NB340_341.out _));(with_reducible repeat first | apply bN_ | apply bD_ | apply bA_);exact BK340.out) Tryz.underlying88 rfl (by kernel_rfl)) rfl ?_
 exact ⟨Er_,Lb_⟩
def laws_toGivenS.l0 : Nat → List (S90) → List (S88) → Int → Option ((List (S88)))
 | 0,_,_,_ => none
 | k + 1,x0,x3,x4 => if x4 < (x0.length : Int) then (if 0 ≤ x4 then ((laws_toGiven.f ((rd_T90 x0 x4).f0) ((rd_T90 x0 x4).f1) ((rd_T90 x0 x4).f2) ((rd_T90 x0 x4).f3)).bind fun bt346 => (if x4 < (x3.length : Int) then (laws_toGivenS.l0 k x0 (x3.set (x4 : Int).toNat (⟨bt346.1,bt346.2.1,bt346.2.2.1,bt346.2.2.2⟩ : S88)) (wrap64 (x4 + 1))) else (none))) else (none)) else (some x3)
def laws_toGivenS.f (k : Nat) (l0 : List (S90)) : Option ((List (S88))):=if 0 ≤ (l0.length : Int) then (if ((l0.length : Int) : Int).toNat ≤ 8796093022208 then (laws_toGivenS.l0 k l0 (List.replicate ((l0.length : Int) : Int).toNat z88) 0) else (none)) else (none)
set_option maxHeartbeats 8000000 in
set_option maxRecDepth 100000 in
theorem laws_toGivenS.calls (k : Nat) (A0 : Option Addr) (c0 : Nat) (l0 : List (S90)) (r : List (S88)) (w : World) (hr0 : Kd.C k90 w A0 l0.length l0) (hc0 : l0.length ≤ c0) (h : laws_toGivenS.f k l0 = some r) :
  Calls Tryz.prog 26 #[.slice A0 l0.length c0] w fun e w' => ∃ v0_ : Value,e = .returned (v0_) ∧ Kd.R k88 88 w' w.heap.size (fun _ => True) v0_ r ∧ Below w.heap.size w w':=by
 have hu90:=Tryz.underlying90
 have hu88:=Tryz.underlying88
 have a8:=Z_ hr0
 have a9:=Z_ hc0
 clear hr0 hc0
 have HB:=Z_ (Below.refl w.heap.size w)
 unfold laws_toGivenS.f at h
 have H:=h
 clear h
 replace H:=iN_ H
 obtain ⟨c2,H⟩:=H
 have c2b0:=eq_true c2
 have c2b1 : decide (0 ≤ (l0.length : Int)) = true:=decide_eq_true c2
 clear c2
 replace H:=iN_ H
 obtain ⟨c3,H⟩:=H
 have c3b0:=eq_true c3
 have c3b1 : decide (((l0.length : Int) : Int).toNat ≤ 8796093022208) = true:=decide_eq_true c3
 clear c3
 obtain ⟨y342,hy342⟩ : ∃ y_ : List (S88),y_ = (List.replicate ((l0.length : Int) : Int).toNat z88):=⟨_,rfl⟩
 replace H : (laws_toGivenS.l0 k l0 y342 0) = some r:=by first | (rw [hy342];with_reducible exact H) | (have H2_:=(Option.bind_some _ _).symm.trans H;rw [hy342];with_reducible exact H2_) | (have H2_:=(Option.bind_some _ _).symm.trans H;with_reducible exact H2_) | with_reducible exact H | (rw [hy342];exact H) | exact H
 have a2:=Z_ hy342
 clear hy342
 have H':=Z_ H
 clear H
 go_enter Tryz.func26,Tryz.ntmps26
 go_wp2_with (first | ((with_reducible refine gD_ 7 rfl ?_);refine Kd.R_make k88 _ 88 rfl (N:=7) rfl 32 _ _ rfl (l0.length : Int) rfl rfl Tryz.underlying32 (.agg #[(.int .i64 0),(.int .i64 0),(.int .i64 0),(.int .i64 0)]) 32 info88 rfl (by decide) (by omega) z88 (ok:=fun _ => True) (okp:=fun _ => True) (k88_mkM _ _ _ z88 ) (fun _ hk => hk) trivial (dA_) (Nat.le_trans (Nat.mul_le_mul_right _ (dA_ : (l0.length : Int).toNat ≤ 8796093022208)) (by omega)) (Below.refl _ _) (Nat.le_refl _) ?_;intro v343 w4 ho5 hb hg_ hnew_;clear hg_ hnew_;(first | rw [← a2.out] at ho5 | (simp only [Int.reduceToNat] at ho5;rw [← a2.out] at ho5));have a5:=Z_ (Kd.R_lower ho5 (below_size HB.out));replace HB:=Z_ (lP_ HB.out hb);clear hb ho5))
 go_loopg [4] k (fun kq v4 w' => ∃ (x3_1 : List (S88)) (x4_1 : Int),v4 = .int .i64 x4_1 ∧ Aside0 (laws_toGivenS.l0 kq l0 x3_1 x4_1 = some r) ∧ Aside0 (kq ≤ k) ∧ Aside0 (Kd.R k88 88 w' w.heap.size (fun _ => True) v343 x3_1) ∧ Aside0 (Below w.heap.size w w'))
 case atStart => exact ⟨(y342),(0),Sr_,H',⟨Nat.le_refl _⟩,⟨Rk_ a5⟩,⟨Lb_⟩⟩
 case round =>
  clear H'
  try clear c2
  try clear c2b0
  try clear c2b1
  try clear p2
  try clear c3
  try clear c3b0
  try clear c3b1
  obtain ⟨x3_1,x4_1,rfl,HA,HK1,a0,HB⟩:=hrel
  cases gk with
  | zero => exact absurd HA.out (by simp [laws_toGivenS.l0])
  | succ k1 =>
   have H:=HA.out
   clear HA
   simp only [laws_toGivenS.l0] at H
   replace H:=iD_ H
   obtain ⟨c6b0,H⟩ | ⟨c6b0,H⟩:=H
   rotate_left
   ·obtain rfl:=Option.some.inj H
    go_wp2
    go_ret
    exact ⟨_,Er_,Rk_ a0,Lb_⟩
   rotate_right
   replace H:=iM_ H
   obtain ⟨c7b0,H⟩:=H
   replace H:=bS_ H
   obtain ⟨⟨t346,t347,t348,t349⟩,A8,H⟩:=H
   try dsimp only at H
   replace H:=iM_ H
   obtain ⟨c9b0,H⟩:=H
   obtain ⟨y350,hy350⟩ : ∃ y_ : List (S88),y_ = (x3_1.set (x4_1 : Int).toNat (⟨t346,t347,t348,t349⟩ : S88)):=⟨_,rfl⟩
   replace H : (laws_toGivenS.l0 k1 l0 y350 (wrap64 (x4_1 + 1))) = some r:=by first | (rw [hy350];with_reducible exact H) | (have H2_:=(Option.bind_some _ _).symm.trans H;rw [hy350];with_reducible exact H2_) | (have H2_:=(Option.bind_some _ _).symm.trans H;with_reducible exact H2_) | with_reducible exact H | (rw [hy350];exact H) | exact H
   have a6:=Z_ hy350
   clear hy350
   have H':=Z_ H
   clear H
   have p345 : 0 ≤ (x4_1 : Int):=dA_
   have q345 : x4_1 < (l0.length : Int):=dA_
   obtain ⟨ad345,e345,hx345_0,hx345_1,hx345_2,hx345_3⟩:=at_T90 a8.out x4_1 p345 q345
   cases e345
   replace hx345_0:=cB_ HB hx345_0
   replace hx345_1:=cB_ HB hx345_1
   replace hx345_2:=cB_ HB hx345_2
   replace hx345_3:=cB_ HB hx345_3
   replace p345:=eq_true p345
   replace q345:=eq_true q345
   go_wp2_with (first | ((with_reducible refine gate_callee (f:=51) rfl ?_);refine goesA_ (some 20) rfl rfl Tryz.func51 (by kernel_rfl) rfl #[.agg #[.int .i64 ((rd_T90 l0 x4_1).f0),.int .i64 ((rd_T90 l0 x4_1).f1),.int .i64 ((rd_T90 l0 x4_1).f2),.int .i64 ((rd_T90 l0 x4_1).f3)]] rfl ?_;(with_reducible refine (laws_toGiven.calls ((rd_T90 l0 x4_1).f0) ((rd_T90 l0 x4_1).f1) ((rd_T90 l0 x4_1).f2) ((rd_T90 l0 x4_1).f3) t346 t347 t348 t349 _ A8.out).mono ?_);rintro e w11 ⟨rfl,hb⟩;refine ⟨_,rfl,?_⟩;replace a0:=Z_ (Kd.R_below a0.out hb);replace HB:=Z_ (lP_ HB.out hb);(try clear hb);have p10 : 0 ≤ (x4_1 : Int):=dA_;have q10 : (x4_1 : Int) < ((x3_1.length : Int) : Int):=dA_;obtain ⟨go10,a3,eo10,a4,gl10,cl10,HG10⟩:=Kd.R_form a0.out (by omega);(first | cases eo10 | (injection eo10 with ea_ en_ ec_;(first | subst ea_ | (injection ea_ with ea_;subst ea_));subst ec_;clear en_));have a1:=Z_ a4;have GG10:=Z_ HG10;clear a4 gl10 HG10;obtain ⟨ce10,hcl10,hM10,hcc10,hfr10⟩:=Kd.R_elem a0.out z88 (x4_1 : Int) p10 q10;obtain rfl:=k88_openM hM10;have hx10_0 : w11.cell? ⟨go10,(x4_1 : Int).toNat * 4,none⟩ = some (.int .i64 ((rd_T88 x3_1 x4_1).f0)):=hcc10 0 _ rfl;have hx10_1 : w11.cell? ⟨go10,(x4_1 : Int).toNat * 4 + 1,none⟩ = some (.int .i64 ((rd_T88 x3_1 x4_1).f1)):=hcc10 1 _ rfl;have hx10_2 : w11.cell? ⟨go10,(x4_1 : Int).toNat * 4 + 2,none⟩ = some (.int .i64 ((rd_T88 x3_1 x4_1).f2)):=hcc10 2 _ rfl;have hx10_3 : w11.cell? ⟨go10,(x4_1 : Int).toNat * 4 + 3,none⟩ = some (.int .i64 ((rd_T88 x3_1 x4_1).f3)):=hcc10 3 _ rfl;have hf10_0 : w11.frozen? ⟨go10,(x4_1 : Int).toNat * 4,none⟩ = false:=hfr10 0;have hf10_1 : w11.frozen? ⟨go10,(x4_1 : Int).toNat * 4 + 1,none⟩ = false:=hfr10 1;have hf10_2 : w11.frozen? ⟨go10,(x4_1 : Int).toNat * 4 + 2,none⟩ = false:=hfr10 2;have hf10_3 : w11.frozen? ⟨go10,(x4_1 : Int).toNat * 4 + 3,none⟩ = false:=hfr10 3;clear hcl10 hcc10 hfr10 hM10;replace p10:=eq_true p10;replace q10:=eq_true q10;have HX12:=Z_ (show Kd.R k88 88 w11 w.heap.size (fun _ => True) (.slice (some ⟨go10,0,none⟩) x3_1.length a3) x3_1 from a0.out);obtain ⟨ce12,hcl12,hM12,hcc12,hfr12⟩:=Kd.R_elem HX12.out z88 (x4_1 : Int) (dA_) (by have h_ : (x4_1 : Int) < ((x3_1.length : Int) : Int):=dA_;first | exact h_ | (have e_:=(Kd.R_reads' a0.out).1;omega) | simpa using h_);obtain rfl:=k88_openM hM12;have HP12:=Kd.R_seg HX12.out (x4_1 : Int) (dA_) (by have h_ : (x4_1 : Int) < ((x3_1.length : Int) : Int):=dA_;first | exact h_ | (have e_:=(Kd.R_reads' a0.out).1;omega) | simpa using h_) (seg:=[.int .i64 t346,.int .i64 t347,.int .i64 t348,.int .i64 t349]) (j:=0) hcl12 hcc12 (show 4 ≤ 4 from by decide) (x':=(⟨t346,t347,t348,t349⟩ : S88)) (k88_mkM _ _ _ (⟨t346,t347,t348,t349⟩ : S88) ) (fun _ hk => hk);have hx12_0:=hcc12 0 _ rfl;(try simp only [show (k88).sz = 4 from rfl,Nat.mul_one,Nat.add_zero] at hx12_0);have hf12_0:=hfr12 0;(try simp only [show (k88).sz = 4 from rfl,Nat.mul_one,Nat.add_zero] at hf12_0);have hx12_1:=hcc12 1 _ rfl;(try simp only [show (k88).sz = 4 from rfl,Nat.mul_one,Nat.add_zero] at hx12_1);have hf12_1:=hfr12 1;(try simp only [show (k88).sz = 4 from rfl,Nat.mul_one,Nat.add_zero] at hf12_1);have hx12_2:=hcc12 2 _ rfl;(try simp only [show (k88).sz = 4 from rfl,Nat.mul_one,Nat.add_zero] at hx12_2);have hf12_2:=hfr12 2;(try simp only [show (k88).sz = 4 from rfl,Nat.mul_one,Nat.add_zero] at hf12_2);have hx12_3:=hcc12 3 _ rfl;(try simp only [show (k88).sz = 4 from rfl,Nat.mul_one,Nat.add_zero] at hx12_3);have hf12_3:=hfr12 3;(try simp only [show (k88).sz = 4 from rfl,Nat.mul_one,Nat.add_zero] at hf12_3);clear hcl12 hcc12 hfr12 hM12) | ((with_reducible refine gate_store (t:=88) (p:=21) rfl ?_);refine store_event (t:=88) (p:=21) (v:=?vo_w13) (w1:=((((w11.setCell ⟨go10,(x4_1 : Int).toNat * 4,none⟩ (.int .i64 t346)).setCell ⟨go10,(x4_1 : Int).toNat * 4 + 1,none⟩ (.int .i64 t347)).setCell ⟨go10,(x4_1 : Int).toNat * 4 + 2,none⟩ (.int .i64 t348)).setCell ⟨go10,(x4_1 : Int).toNat * 4 + 3,none⟩ (.int .i64 t349))) ?hg ?ho ?hn ?hr ?_;(case ho => rfl);(case hg => rfl);(case hn => rfl);(case hr => first | (go_simp;done) | (go_simp;rfl));intro w13 hw;have hg : w11.grownBy w13 (some go10):=(by rw [hw];exact HP12.2);have hp_ : Kd.R k88 88 w13 w.heap.size (fun _ => True) (.slice (some ⟨go10,0,none⟩) x3_1.length a3) y350:=(by rw [hw,a6.out];exact HP12.1);clear HP12;replace a0:=Z_ (hp_);replace HB:=Z_ ((by rw [hw];exact lS1_ (lS1_ (lS1_ (lS1_ (HB.out) a1.out) a1.out) a1.out) a1.out : Below w.heap.size w w13));clear hg hw hp_))
   go_roundg k1
   case measure => have:=HK1.out;omega
   case rel => exact ⟨(y350),(wrap64 (x4_1 + 1)),Sr_,H',⟨by have:=HK1.out;omega⟩,⟨Rk_ a0⟩,⟨Lb_⟩⟩
def laws_toNet.f (k : Nat) (l0_0 : List (S85)) (l0_1 : List (S71)) (l0_2 l0_3 : List Int) (l0_4 l0_5 : List (S90)) : Option ((List (S83)) × (List (S76)) × List Int × List Int × (List (S88)) × (List (S88))):=(laws_toTermS.f k l0_0).bind fun t354 => ((laws_toGateS.f k l0_1).bind fun t357 => ((laws_toInt64S.f k l0_2).bind fun t360 => ((laws_toInt64S.f k l0_3).bind fun t363 => ((laws_toGivenS.f k l0_4).bind fun t366 => ((laws_toGivenS.f k l0_5).bind fun t369 => (some (t354,t357,t360,t363,t366,t369)))))))
set_option maxHeartbeats 8000000 in
set_option maxRecDepth 100000 in
theorem laws_toNet.calls (k : Nat) (A0_0 : Option Addr) (c0_0 : Nat) (l0_0 : List (S85)) (A0_1 : Option Addr) (c0_1 : Nat) (l0_1 : List (S71)) (A0_2 : Option Addr) (c0_2 : Nat) (l0_2 : List Int) (A0_3 : Option Addr) (c0_3 : Nat) (l0_3 : List Int) (A0_4 : Option Addr) (c0_4 : Nat) (l0_4 : List (S90)) (A0_5 : Option Addr) (c0_5 : Nat) (l0_5 : List (S90)) (r1 : List (S83)) (r2 : List (S76)) (r3 r4 : List Int) (r5 r6 : List (S88)) (w : World) (hr0_0 : Kd.C k85 w A0_0 l0_0.length l0_0) (hc0_0 : l0_0.length ≤ c0_0) (hr0_1 : Kd.C k71 w A0_1 l0_1.length l0_1) (hc0_1 : l0_1.length ≤ c0_1) (hr0_2 : Kd.C (Kd.int .i64) w A0_2 l0_2.length l0_2) (hc0_2 : l0_2.length ≤ c0_2) (hr0_3 : Kd.C (Kd.int .i64) w A0_3 l0_3.length l0_3) (hc0_3 : l0_3.length ≤ c0_3) (hr0_4 : Kd.C k90 w A0_4 l0_4.length l0_4) (hc0_4 : l0_4.length ≤ c0_4) (hr0_5 : Kd.C k90 w A0_5 l0_5.length l0_5) (hc0_5 : l0_5.length ≤ c0_5) (h : laws_toNet.f k l0_0 l0_1 l0_2 l0_3 l0_4 l0_5 = some (r1,r2,r3,r4,r5,r6)) :
  Calls Tryz.prog 7 #[.agg #[.slice A0_0 l0_0.length c0_0,.slice A0_1 l0_1.length c0_1,.slice A0_2 l0_2.length c0_2,.slice A0_3 l0_3.length c0_3,.slice A0_4 l0_4.length c0_4,.slice A0_5 l0_5.length c0_5]] w fun e w' => ∃ v0_ v1_ v2_ v3_ v4_ v5_ : Value,e = .returned (.agg #[v0_,v1_,v2_,v3_,v4_,v5_]) ∧ Kd.R k83 83 w' w.heap.size (fun _ => True) v0_ r1 ∧ Kd.S k76 76 w' w.heap.size (fun _ => True) v1_ r2 ∧ Kd.R (Kd.int .i64) 2 w' w.heap.size (fun k_ => some k_ ≠ (v3_ : Value).ownBlock) v2_ r3 ∧ Kd.R (Kd.int .i64) 2 w' w.heap.size (fun k_ => some k_ ≠ (v2_ : Value).ownBlock) v3_ r4 ∧ Kd.R k88 88 w' w.heap.size (fun k_ => some k_ ≠ (v5_ : Value).ownBlock) v4_ r5 ∧ Kd.R k88 88 w' w.heap.size (fun k_ => some k_ ≠ (v4_ : Value).ownBlock) v5_ r6 ∧ Below w.heap.size w w':=by
 have hu27:=Tryz.underlying27
 have hu34:=Tryz.underlying34
 have HR0_0:=Z_ hr0_0
 have HC0_0:=Z_ hc0_0
 clear hr0_0 hc0_0
 have HR0_1:=Z_ hr0_1
 have HC0_1:=Z_ hc0_1
 clear hr0_1 hc0_1
 have HR0_2:=Z_ hr0_2
 have HC0_2:=Z_ hc0_2
 clear hr0_2 hc0_2
 have HR0_3:=Z_ hr0_3
 have HC0_3:=Z_ hc0_3
 clear hr0_3 hc0_3
 have HR0_4:=Z_ hr0_4
 have HC0_4:=Z_ hc0_4
 clear hr0_4 hc0_4
 have HR0_5:=Z_ hr0_5
 have HC0_5:=Z_ hc0_5
 clear hr0_5 hc0_5
 have HB:=Z_ (Below.refl w.heap.size w)
 unfold laws_toNet.f at h
 have H:=h
 clear h
 replace H:=bS_ H
 obtain ⟨t354,A2,H⟩:=H
 replace H:=bS_ H
 obtain ⟨t357,A3,H⟩:=H
 replace H:=bS_ H
 obtain ⟨t360,A4,H⟩:=H
 replace H:=bS_ H
 obtain ⟨t363,A5,H⟩:=H
 replace H:=bS_ H
 obtain ⟨t366,A6,H⟩:=H
 replace H:=bS_ H
 obtain ⟨t369,A7,H⟩:=H
 simp only [Option.some.injEq,Prod.mk.injEq] at H
 obtain ⟨rfl,rfl,rfl,rfl,rfl,rfl⟩:=H
 go_enter Tryz.func7,Tryz.ntmps7
 go_wp2_with (first | ((with_reducible refine gD_ 1 rfl ?_);refine bx_ #[.slice A0_0 l0_0.length c0_0,.slice A0_1 l0_1.length c0_1,.slice A0_2 l0_2.length c0_2,.slice A0_3 l0_3.length c0_3,.slice A0_4 l0_4.length c0_4,.slice A0_5 l0_5.length c0_5] 27 ?_;intro ak hg w8 hbox hb;have a3:=Z_ hbox;have a6:=Z_ ((by rw [hg];exact (below_size HB.out) : w.heap.size ≤ ak));replace HB:=Z_ (lP_ HB.out hb);clear hb hbox hg) | ((with_reducible refine gD_ 2 rfl ?_);refine bx_ #[.slice none 0 0,.slice none 0 0,.slice none 0 0,.slice none 0 0,.slice none 0 0,.slice none 0 0] 34 ?_;intro a4 hg w9 hbox hb;have a2:=Z_ hbox;have a7:=Z_ ((by rw [hg];exact (below_size HB.out) : w.heap.size ≤ a4));replace HB:=Z_ (lP_ HB.out hb);have au:=Z_ ((by rw [hg];exact Nat.ne_of_lt (blk_lt a3.out) : ak ≠ a4));replace a3:=Z_ (bB_ a3.out hb);have av:=Z_ au.out.symm;clear hb hbox hg) | ((with_reducible refine gD_ 3 rfl ?_);refine bx_ #[.slice none 0 0,.slice none 0 0,.slice none 0 0,.slice none 0 0,.slice none 0 0,.slice none 0 0] 34 ?_;intro a1 hg w10 hbox hb;have a0:=Z_ hbox;have a8:=Z_ ((by rw [hg];exact (below_size HB.out) : w.heap.size ≤ a1));replace HB:=Z_ (lP_ HB.out hb);have ac:=Z_ ((by rw [hg];exact Nat.ne_of_lt (blk_lt a3.out) : ak ≠ a1));replace a3:=Z_ (bB_ a3.out hb);have aw:=Z_ ac.out.symm;have aa:=Z_ ((by rw [hg];exact Nat.ne_of_lt (blk_lt a2.out) : a4 ≠ a1));replace a2:=Z_ (bB_ a2.out hb);have ax:=Z_ aa.out.symm;clear hb hbox hg;have b5:=au.out;have b6:=av.out;have b7:=ac.out;have b8:=aw.out;obtain ⟨_,_,_,_,_,_,_,_,_,_,_,_⟩:=bc6 a3.out) | ((with_reducible refine gate_callee (f:=23) rfl ?_);refine goesA_ (some 6) rfl rfl Tryz.func23 (by kernel_rfl) rfl #[.slice A0_0 l0_0.length c0_0] rfl ?_;(with_reducible refine (laws_toTermS.calls k _ _ l0_0 t354 _ ?side1 ?side2 A2.out).mono ?_);(case side1 => exact Cb_ HR0_0);(case side2 => exact HC0_0.out);rintro e w14 ⟨v355,rfl,ho0,hb⟩;refine ⟨_,rfl,?_⟩;have a5:=Z_ (Kd.R_lower ho0 (below_size HB.out));replace a3:=Z_ (bB_ a3.out hb);replace a2:=Z_ (bB_ a2.out hb);replace a0:=Z_ (bB_ a0.out hb);replace HB:=Z_ (lP_ HB.out hb);(try clear hb);(try clear ho0);obtain ⟨ad,ae,eo15⟩:=Kd.R_slice a5.out;subst eo15;have b9:=ax.out;have ba:=aa.out;obtain ⟨_,_,_,_,_,_,_,_,_,_,_,_⟩:=bc6 a0.out;obtain ⟨_,_,_,_,_,_,_,_,_,_,_,_⟩:=bc6 a3.out) | ((with_reducible refine gate_callee (f:=24) rfl ?_);refine goesA_ (some 10) rfl rfl Tryz.func24 (by kernel_rfl) rfl #[.slice A0_1 l0_1.length c0_1] rfl ?_;(with_reducible refine (laws_toGateS.calls k _ _ l0_1 t357 _ ?side1 ?side2 A3.out).mono ?_);(case side1 => exact Kd.C_below HR0_1.out Lb_);(case side2 => exact HC0_1.out);rintro e w19 ⟨v358,rfl,ho0,hb⟩;refine ⟨_,rfl,?_⟩;replace a5:=Z_ (Kd.R_below (Kd.R_mono (Kd.R_far (p:=⟨a1,0,none⟩) (Kd.R_types a5.out a0.out (by decide)) (fun _ hk => hk.2) (.slice ad t354.length ae)) (fun _ h_ => h_.1)) hb);have a9:=Z_ (Kd.S_lower ho0 (below_size Lb_));replace a3:=Z_ (bB_ (g:=ak) (o:=.cells #[.slice A0_0 l0_0.length c0_0,.slice A0_1 l0_1.length c0_1,.slice A0_2 l0_2.length c0_2,.slice A0_3 l0_3.length c0_3,.slice A0_4 l0_4.length c0_4,.slice A0_5 l0_5.length c0_5] 27 (0,0)) (by refine bF_ ?_ ac.out _;exact a3.out) hb);replace a2:=Z_ (bB_ (g:=a4) (o:=.cells #[.slice none 0 0,.slice none 0 0,.slice none 0 0,.slice none 0 0,.slice none 0 0,.slice none 0 0] 34 (0,0)) (by refine bF_ ?_ aa.out _;exact a2.out) hb);replace a0:=Z_ (bB_ (g:=a1) (o:=.cells #[.slice ad t354.length ae,.slice none 0 0,.slice none 0 0,.slice none 0 0,.slice none 0 0,.slice none 0 0] 34 (0,0)) (by refine blk_put (cs:=#[.slice none 0 0,.slice none 0 0,.slice none 0 0,.slice none 0 0,.slice none 0 0,.slice none 0 0]) ?_ 0 _ rfl;exact a0.out) hb);replace HB:=Z_ (lP_ Lb_ hb);(try clear hb);(try clear ho0);obtain ⟨af,ag,eo20⟩:=Kd.S_slice a9.out;subst eo20;obtain ⟨_,_,_,_,_,_,_,_,_,_,_,_⟩:=bc6 a0.out;obtain ⟨_,_,_,_,_,_,_,_,_,_,_,_⟩:=bc6 a3.out) | ((with_reducible refine gate_callee (f:=25) rfl ?_);refine goesA_ (some 14) rfl rfl Tryz.func25 (by kernel_rfl) rfl #[.slice A0_2 l0_2.length c0_2] rfl ?_;(with_reducible refine (laws_toInt64S.calls k _ _ l0_2 t360 _ ?side1 ?side2 A4.out).mono ?_);(case side1 => exact Kd.C_below HR0_2.out Lb_);(case side2 => exact HC0_2.out);rintro e w23 ⟨v361,rfl,ho0,hb⟩;refine ⟨_,rfl,?_⟩;replace a5:=Z_ (Kd.R_below (Kd.R_mono (Kd.R_far (p:=⟨a1,1,none⟩) (Kd.R_types a5.out a0.out (by decide)) (fun _ hk => hk.2) (.slice af t357.length ag)) (fun _ h_ => h_.1)) hb);replace a9:=Z_ (Kd.S_below (by (with_reducible repeat (first | apply Kd.S_alloc | apply Kd.S_drewN | apply Kd.S_drew));exact (Kd.S_mono (Kd.S_far (p:=⟨a1,1,none⟩) (Kd.S_types a9.out a0.out (by decide)) (fun _ hk => hk.2) (.slice af t357.length ag)) (fun _ h_ => h_.1))) hb);have ab:=Z_ (Kd.R_lower ho0 (below_size Lb_));replace a3:=Z_ (bB_ (g:=ak) (o:=.cells #[.slice A0_0 l0_0.length c0_0,.slice A0_1 l0_1.length c0_1,.slice A0_2 l0_2.length c0_2,.slice A0_3 l0_3.length c0_3,.slice A0_4 l0_4.length c0_4,.slice A0_5 l0_5.length c0_5] 27 (0,0)) (by refine bF_ ?_ ac.out _;exact a3.out) hb);replace a2:=Z_ (bB_ (g:=a4) (o:=.cells #[.slice none 0 0,.slice none 0 0,.slice none 0 0,.slice none 0 0,.slice none 0 0,.slice none 0 0] 34 (0,0)) (by refine bF_ ?_ aa.out _;exact a2.out) hb);replace a0:=Z_ (bB_ (g:=a1) (o:=.cells #[.slice ad t354.length ae,.slice af t357.length ag,.slice none 0 0,.slice none 0 0,.slice none 0 0,.slice none 0 0] 34 (0,0)) (by refine blk_put (cs:=#[.slice ad t354.length ae,.slice none 0 0,.slice none 0 0,.slice none 0 0,.slice none 0 0,.slice none 0 0]) ?_ 1 _ rfl;exact a0.out) hb);replace HB:=Z_ (lP_ Lb_ hb);(try clear hb);(try clear ho0);obtain ⟨ah,ai,eo24⟩:=Kd.R_slice ab.out;subst eo24;obtain ⟨_,_,_,_,_,_,_,_,_,_,_,_⟩:=bc6 a0.out;obtain ⟨_,_,_,_,_,_,_,_,_,_,_,_⟩:=bc6 a3.out) | ((with_reducible refine gate_callee (f:=25) rfl ?_);refine goesA_ (some 18) rfl rfl Tryz.func25 (by kernel_rfl) rfl #[.slice A0_3 l0_3.length c0_3] rfl ?_;(with_reducible refine (laws_toInt64S.calls k _ _ l0_3 t363 _ ?side1 ?side2 A5.out).mono ?_);(case side1 => exact Kd.C_below HR0_3.out Lb_);(case side2 => exact HC0_3.out);rintro e w27 ⟨v364,rfl,ho0,hb⟩;refine ⟨_,rfl,?_⟩;replace a5:=Z_ (Kd.R_below (Kd.R_mono (Kd.R_far (p:=⟨a1,2,none⟩) (Kd.R_types a5.out a0.out (by decide)) (fun _ hk => hk.2) (.slice ah t360.length ai)) (fun _ h_ => h_.1)) hb);replace a9:=Z_ (Kd.S_below (by (with_reducible repeat (first | apply Kd.S_alloc | apply Kd.S_drewN | apply Kd.S_drew));exact (Kd.S_mono (Kd.S_far (p:=⟨a1,2,none⟩) (Kd.S_types a9.out a0.out (by decide)) (fun _ hk => hk.2) (.slice ah t360.length ai)) (fun _ h_ => h_.1))) hb);have aj:=Z_ (Kd.R_lower (Kd.R_new' ho0 (Kd.R_lt (Kd.R_mono (Kd.R_far (p:=⟨a1,2,none⟩) (Kd.R_types ab.out a0.out (by decide)) (fun _ hk => hk.2) (.slice ah t360.length ai)) (fun _ h_ => h_.1)))) (below_size Lb_));replace ab:=Z_ (Kd.R_elder' (Kd.R_mono (Kd.R_far (p:=⟨a1,2,none⟩) (Kd.R_types ab.out a0.out (by decide)) (fun _ hk => hk.2) (.slice ah t360.length ai)) (fun _ h_ => h_.1)) (Kd.R_base ho0) hb);replace a3:=Z_ (bB_ (g:=ak) (o:=.cells #[.slice A0_0 l0_0.length c0_0,.slice A0_1 l0_1.length c0_1,.slice A0_2 l0_2.length c0_2,.slice A0_3 l0_3.length c0_3,.slice A0_4 l0_4.length c0_4,.slice A0_5 l0_5.length c0_5] 27 (0,0)) (by refine bF_ ?_ ac.out _;exact a3.out) hb);replace a2:=Z_ (bB_ (g:=a4) (o:=.cells #[.slice none 0 0,.slice none 0 0,.slice none 0 0,.slice none 0 0,.slice none 0 0,.slice none 0 0] 34 (0,0)) (by refine bF_ ?_ aa.out _;exact a2.out) hb);replace a0:=Z_ (bB_ (g:=a1) (o:=.cells #[.slice ad t354.length ae,.slice af t357.length ag,.slice ah t360.length ai,.slice none 0 0,.slice none 0 0,.slice none 0 0] 34 (0,0)) (by refine blk_put (cs:=#[.slice ad t354.length ae,.slice af t357.length ag,.slice none 0 0,.slice none 0 0,.slice none 0 0,.slice none 0 0]) ?_ 2 _ rfl;exact a0.out) hb);replace HB:=Z_ (lP_ Lb_ hb);(try clear hb);(try clear ho0);obtain ⟨al,am,eo28⟩:=Kd.R_slice aj.out;subst eo28;obtain ⟨_,_,_,_,_,_,_,_,_,_,_,_⟩:=bc6 a0.out;obtain ⟨_,_,_,_,_,_,_,_,_,_,_,_⟩:=bc6 a3.out) | ((with_reducible refine gate_callee (f:=26) rfl ?_);refine goesA_ (some 22) rfl rfl Tryz.func26 (by kernel_rfl) rfl #[.slice A0_4 l0_4.length c0_4] rfl ?_;(with_reducible refine (laws_toGivenS.calls k _ _ l0_4 t366 _ ?side1 ?side2 A6.out).mono ?_);(case side1 => exact Kd.C_below HR0_4.out Lb_);(case side2 => exact HC0_4.out);rintro e w31 ⟨v367,rfl,ho0,hb⟩;refine ⟨_,rfl,?_⟩;replace a5:=Z_ (Kd.R_below (Kd.R_mono (Kd.R_far (p:=⟨a1,3,none⟩) (Kd.R_types a5.out a0.out (by decide)) (fun _ hk => hk.2) (.slice al t363.length am)) (fun _ h_ => h_.1)) hb);replace a9:=Z_ (Kd.S_below (by (with_reducible repeat (first | apply Kd.S_alloc | apply Kd.S_drewN | apply Kd.S_drew));exact (Kd.S_mono (Kd.S_far (p:=⟨a1,3,none⟩) (Kd.S_types a9.out a0.out (by decide)) (fun _ hk => hk.2) (.slice al t363.length am)) (fun _ h_ => h_.1))) hb);replace ab:=Z_ (Kd.R_below (Kd.R_mono (Kd.R_far (p:=⟨a1,3,none⟩) (Kd.R_types ab.out a0.out (by decide)) (fun _ hk => hk.2) (.slice al t363.length am)) (fun _ h_ => h_.1)) hb);replace aj:=Z_ (Kd.R_below (Kd.R_mono (Kd.R_far (p:=⟨a1,3,none⟩) (Kd.R_types aj.out a0.out (by decide)) (fun _ hk => hk.2) (.slice al t363.length am)) (fun _ h_ => h_.1)) hb);have ar:=Z_ (Kd.R_lower ho0 (below_size Lb_));replace a3:=Z_ (bB_ (g:=ak) (o:=.cells #[.slice A0_0 l0_0.length c0_0,.slice A0_1 l0_1.length c0_1,.slice A0_2 l0_2.length c0_2,.slice A0_3 l0_3.length c0_3,.slice A0_4 l0_4.length c0_4,.slice A0_5 l0_5.length c0_5] 27 (0,0)) (by refine bF_ ?_ ac.out _;exact a3.out) hb);replace a2:=Z_ (bB_ (g:=a4) (o:=.cells #[.slice none 0 0,.slice none 0 0,.slice none 0 0,.slice none 0 0,.slice none 0 0,.slice none 0 0] 34 (0,0)) (by refine bF_ ?_ aa.out _;exact a2.out) hb);replace a0:=Z_ (bB_ (g:=a1) (o:=.cells #[.slice ad t354.length ae,.slice af t357.length ag,.slice ah t360.length ai,.slice al t363.length am,.slice none 0 0,.slice none 0 0] 34 (0,0)) (by refine blk_put (cs:=#[.slice ad t354.length ae,.slice af t357.length ag,.slice ah t360.length ai,.slice none 0 0,.slice none 0 0,.slice none 0 0]) ?_ 3 _ rfl;exact a0.out) hb);replace HB:=Z_ (lP_ Lb_ hb);(try clear hb);(try clear ho0);obtain ⟨an,ao,eo32⟩:=Kd.R_slice ar.out;subst eo32;obtain ⟨_,_,_,_,_,_,_,_,_,_,_,_⟩:=bc6 a0.out;obtain ⟨_,_,_,_,_,_,_,_,_,_,_,_⟩:=bc6 a3.out) | ((with_reducible refine gate_callee (f:=26) rfl ?_);refine goesA_ (some 26) rfl rfl Tryz.func26 (by kernel_rfl) rfl #[.slice A0_5 l0_5.length c0_5] rfl ?_;(with_reducible refine (laws_toGivenS.calls k _ _ l0_5 t369 _ ?side1 ?side2 A7.out).mono ?_);(case side1 => exact Kd.C_below HR0_5.out Lb_);(case side2 => exact HC0_5.out);rintro e w35 ⟨v370,rfl,ho0,hb⟩;refine ⟨_,rfl,?_⟩;replace a5:=Z_ (Kd.R_below (Kd.R_mono (Kd.R_far (p:=⟨a1,4,none⟩) (Kd.R_types a5.out a0.out (by decide)) (fun _ hk => hk.2) (.slice an t366.length ao)) (fun _ h_ => h_.1)) hb);replace a9:=Z_ (Kd.S_below (by (with_reducible repeat (first | apply Kd.S_alloc | apply Kd.S_drewN | apply Kd.S_drew));exact (Kd.S_mono (Kd.S_far (p:=⟨a1,4,none⟩) (Kd.S_types a9.out a0.out (by decide)) (fun _ hk => hk.2) (.slice an t366.length ao)) (fun _ h_ => h_.1))) hb);replace ab:=Z_ (Kd.R_below (Kd.R_mono (Kd.R_far (p:=⟨a1,4,none⟩) (Kd.R_types ab.out a0.out (by decide)) (fun _ hk => hk.2) (.slice an t366.length ao)) (fun _ h_ => h_.1)) hb);replace aj:=Z_ (Kd.R_below (Kd.R_mono (Kd.R_far (p:=⟨a1,4,none⟩) (Kd.R_types aj.out a0.out (by decide)) (fun _ hk => hk.2) (.slice an t366.length ao)) (fun _ h_ => h_.1)) hb);have ay:=Z_ (Kd.R_lower (Kd.R_new' ho0 (Kd.R_lt (Kd.R_mono (Kd.R_far (p:=⟨a1,4,none⟩) (Kd.R_types ar.out a0.out (by decide)) (fun _ hk => hk.2) (.slice an t366.length ao)) (fun _ h_ => h_.1)))) (below_size Lb_));replace ar:=Z_ (Kd.R_elder' (Kd.R_mono (Kd.R_far (p:=⟨a1,4,none⟩) (Kd.R_types ar.out a0.out (by decide)) (fun _ hk => hk.2) (.slice an t366.length ao)) (fun _ h_ => h_.1)) (Kd.R_base ho0) hb);replace a2:=Z_ (bB_ (g:=a4) (o:=.cells #[.slice none 0 0,.slice none 0 0,.slice none 0 0,.slice none 0 0,.slice none 0 0,.slice none 0 0] 34 (0,0)) (by refine bF_ ?_ aa.out _;exact a2.out) hb);replace a0:=Z_ (bB_ (g:=a1) (o:=.cells #[.slice ad t354.length ae,.slice af t357.length ag,.slice ah t360.length ai,.slice al t363.length am,.slice an t366.length ao,.slice none 0 0] 34 (0,0)) (by refine blk_put (cs:=#[.slice ad t354.length ae,.slice af t357.length ag,.slice ah t360.length ai,.slice al t363.length am,.slice none 0 0,.slice none 0 0]) ?_ 4 _ rfl;exact a0.out) hb);replace HB:=Z_ (lP_ Lb_ hb);(try clear hb);(try clear ho0);obtain ⟨ap,aq,eo36⟩:=Kd.R_slice ay.out;subst eo36;obtain ⟨_,_,_,_,_,_,_,_,_,_,_,_⟩:=bc6 a0.out;obtain ⟨_,_,_,_,_,_,_,_,_,_,_,_⟩:=bc6 a2.out))
 refine bodyPost_ret (results_cell_row rfl _ _ a4 34 #[.slice ad t354.length ae,.slice af t357.length ag,.slice ah t360.length ai,.slice al t363.length am,.slice an t366.length ao,.slice ap t369.length aq] (0,0) _ rfl (by (with_reducible repeat first | apply bN_ | apply bD_ | apply bA_);apply fill6;(with_reducible repeat first | apply bN_ | apply bD_ | apply bA_);refine bF_ ?_ aa.out _;(with_reducible repeat first | apply bN_ | apply bD_ | apply bA_);exact a2.out) Tryz.underlying34 rfl (by kernel_rfl)) rfl ?_
 exact ⟨_,_,_,_,_,_,Er_,by (with_reducible repeat first | apply rA_ | apply rN_ | apply rD_);exact Kd.R_mono (rfar6 (g:=a4) (Kd.R_far (p:=⟨a1,5,none⟩) (Kd.R_types (Kd.R_types a5.out a0.out (by decide)) a2.out (by decide)) (fun _ hk => hk.1.2) (.slice ap t369.length aq)) (fun _ hk => hk.2)) (fun _ hk => trivial),by (with_reducible repeat (first | apply Kd.S_alloc | apply Kd.S_drewN | apply Kd.S_drew));exact Kd.S_mono (Kd.S_far (p:=⟨a4,5,none⟩) (Kd.S_far (p:=⟨a4,4,none⟩) (Kd.S_far (p:=⟨a4,3,none⟩) (Kd.S_far (p:=⟨a4,2,none⟩) (Kd.S_far (p:=⟨a4,1,none⟩) (Kd.S_far (p:=⟨a4,0,none⟩) (Kd.S_far (p:=⟨a1,5,none⟩) (Kd.S_types (Kd.S_types a9.out a0.out (by decide)) a2.out (by decide)) (fun _ hk => hk.1.2) (.slice ap t369.length aq)) (fun _ hk => hk.2) (.slice ad t354.length ae)) (fun _ hk => hk.2) (.slice af t357.length ag)) (fun _ hk => hk.2) (.slice ah t360.length ai)) (fun _ hk => hk.2) (.slice al t363.length am)) (fun _ hk => hk.2) (.slice an t366.length ao)) (fun _ hk => hk.2) (.slice ap t369.length aq)) (fun _ hk => trivial),by (with_reducible repeat first | apply rA_ | apply rN_ | apply rD_);exact Kd.R_mono (rfar6 (g:=a4) (Kd.R_far (p:=⟨a1,5,none⟩) (Kd.R_types (Kd.R_types ab.out a0.out (by decide)) a2.out (by decide)) (fun _ hk => hk.1.2) (.slice ap t369.length aq)) (fun _ hk => hk.2)) (fun _ hk => hk.1.1.2),by (with_reducible repeat first | apply rA_ | apply rN_ | apply rD_);exact Kd.R_mono (rfar6 (g:=a4) (Kd.R_far (p:=⟨a1,5,none⟩) (Kd.R_types (Kd.R_types aj.out a0.out (by decide)) a2.out (by decide)) (fun _ hk => hk.1.2) (.slice ap t369.length aq)) (fun _ hk => hk.2)) (fun _ hk => hk.1.1.2),by (with_reducible repeat first | apply rA_ | apply rN_ | apply rD_);exact Kd.R_mono (rfar6 (g:=a4) (Kd.R_far (p:=⟨a1,5,none⟩) (Kd.R_types (Kd.R_types ar.out a0.out (by decide)) a2.out (by decide)) (fun _ hk => hk.1.2) (.slice ap t369.length aq)) (fun _ hk => hk.2)) (fun _ hk => hk.1.1.2),by (with_reducible repeat first | apply rA_ | apply rN_ | apply rD_);exact Kd.R_mono (rfar6 (g:=a4) (Kd.R_far (p:=⟨a1,5,none⟩) (Kd.R_types (Kd.R_types ay.out a0.out (by decide)) a2.out (by decide)) (fun _ hk => hk.1.2) (.slice ap t369.length aq)) (fun _ hk => hk.2)) (fun _ hk => hk.1.1.2),Lb_⟩
def laws_eqTerm.f (a0_0 a0_1 a0_2 a0_3 a1_0 a1_1 a1_2 a1_3 : Int) : Option (Bool):=if a0_0 = a1_0 then (if a0_1 = a1_1 then (if a0_2 = a1_2 then (if a0_3 = a1_3 then (some true) else (some false)) else (some false)) else (some false)) else (some false)
set_option maxHeartbeats 8000000 in
set_option maxRecDepth 100000 in
theorem laws_eqTerm.calls (a0_0 a0_1 a0_2 a0_3 a1_0 a1_1 a1_2 a1_3 : Int) (r : Bool) (w : World) (h : laws_eqTerm.f a0_0 a0_1 a0_2 a0_3 a1_0 a1_1 a1_2 a1_3 = some r) :
  Calls Tryz.prog 64 #[.agg #[.int .i64 a0_0,.int .i64 a0_1,.int .i64 a0_2,.int .i64 a0_3],.agg #[.int .i64 a1_0,.int .i64 a1_1,.int .i64 a1_2,.int .i64 a1_3]] w fun e w' => e = .returned (.bool r) ∧ Below w.heap.size w w':=by
 have hu83:=Tryz.underlying83
 have HB:=Z_ (Below.refl w.heap.size w)
 unfold laws_eqTerm.f at h
 have H:=h
 clear h
 replace H:=iE_ H
 obtain ⟨c3b0,c3b1,H⟩ | ⟨c3b0,c3b1,H⟩:=H
 replace H:=iE_ H
 obtain ⟨c4b0,c4b1,H⟩ | ⟨c4b0,c4b1,H⟩:=H
 replace H:=iE_ H
 obtain ⟨c5b0,c5b1,H⟩ | ⟨c5b0,c5b1,H⟩:=H
 replace H:=iE_ H
 obtain ⟨c6b0,c6b1,H⟩ | ⟨c6b0,c6b1,H⟩:=H
 all_goals
  obtain rfl:=Option.some.inj H
  go_enter Tryz.func64,Tryz.ntmps64
  go_wp2_with (first | ((with_reducible refine gD_ 2 rfl ?_);refine bx_ #[.int .i64 a0_0,.int .i64 a0_1,.int .i64 a0_2,.int .i64 a0_3] 83 ?_;intro a3 hg w12 hbox hb;have a0:=Z_ hbox;have a5:=Z_ ((by rw [hg];exact (below_size Lb_) : w.heap.size ≤ a3));replace HB:=Z_ (lP_ Lb_ hb);clear hb hbox hg) | ((with_reducible refine gD_ 3 rfl ?_);refine bx_ #[.int .i64 a1_0,.int .i64 a1_1,.int .i64 a1_2,.int .i64 a1_3] 83 ?_;intro a4 hg w13 hbox hb;have a6:=Z_ hbox;have a7:=Z_ ((by rw [hg];exact (below_size HB.out) : w.heap.size ≤ a4));replace HB:=Z_ (lP_ HB.out hb);have a1:=Z_ ((by rw [hg];exact Nat.ne_of_lt (blk_lt a0.out) : a3 ≠ a4));replace a0:=Z_ (bB_ a0.out hb);have a2:=Z_ a1.out.symm;clear hb hbox hg;have a8:=a1.out;have a9:=a2.out;obtain ⟨_,_,_,_,_,_,_,_⟩:=bc4 a0.out;obtain ⟨_,_,_,_,_,_,_,_⟩:=bc4 a6.out))
  go_ret
  exact ⟨Er_,Lb_⟩
def laws_eqTermS.l0 : Nat → List (S83) → List (S83) → Int → Option (Bool)
 | 0,_,_,_ => none
 | k + 1,x0,x1,x5 => if x5 < (x0.length : Int) then (if 0 ≤ x5 then (if x5 < (x1.length : Int) then ((laws_eqTerm.f ((rd_T83 x0 x5).f0) ((rd_T83 x0 x5).f1) ((rd_T83 x0 x5).f2) ((rd_T83 x0 x5).f3) ((rd_T83 x1 x5).f0) ((rd_T83 x1 x5).f1) ((rd_T83 x1 x5).f2) ((rd_T83 x1 x5).f3)).bind fun t454 => (if t454 = true then (laws_eqTermS.l0 k x0 x1 (wrap64 (x5 + 1))) else (some false))) else (none)) else (none)) else (some true)
def laws_eqTermS.f (k : Nat) (l0 l1 : List (S83)) : Option (Bool):=if (l0.length : Int) = (l1.length : Int) then (laws_eqTermS.l0 k l0 l1 0) else (some false)
def laws_eqTermS.T6 : Bool × List (List Nat × List Nat):=(true,[([],[]),([],[]),([0,1],[0,1]),([2],[2]),([],[]),([],[]),([4,5],[4,5]),([6],[6]),([3,7],[3,7]),([8],[8])])
def laws_eqTermS.B6 : List Nat:=[0,0,3,7,0,0,48,112,255,511]
theorem laws_eqTermS.tab6 : rtab .any (opsOf Tryz.f30 6) = laws_eqTermS.T6:=by kernel_rfl
theorem laws_eqTermS.bits6 : waitsOk laws_eqTermS.T6.2 laws_eqTermS.B6 = true:=by kernel_rfl
set_option maxHeartbeats 8000000 in
set_option maxRecDepth 100000 in
theorem laws_eqTermS.calls (k : Nat) (A0 : Option Addr) (c0 : Nat) (l0 : List (S83)) (A1 : Option Addr) (c1 : Nat) (l1 : List (S83)) (r : Bool) (w : World) (hr0 : Kd.C k83 w A0 l0.length l0) (hc0 : l0.length ≤ c0) (hr1 : Kd.C k83 w A1 l1.length l1) (hc1 : l1.length ≤ c1) (h : laws_eqTermS.f k l0 l1 = some r) :
  Calls Tryz.prog 30 #[.slice A0 l0.length c0,.slice A1 l1.length c1] w fun e w' => e = .returned (.bool r) ∧ Below w.heap.size w w':=by
 have hu83:=Tryz.underlying83
 have a0:=Z_ hr0
 have a3:=Z_ hc0
 clear hr0 hc0
 have a1:=Z_ hr1
 have a4:=Z_ hc1
 clear hr1 hc1
 have HB:=Z_ (Below.refl w.heap.size w)
 unfold laws_eqTermS.f at h
 have H:=h
 clear h
 replace H:=iC_ H
 obtain ⟨c3,H⟩ | ⟨c3,H⟩:=H
 rotate_left
 ·have c3b0 : ((l0.length : Int) == (l1.length : Int)) = false:=beq_eq_false_iff_ne.mpr c3
  have c3b1 : ((l0.length : Int) != (l1.length : Int)) = true:=bne_iff_ne.mpr c3
  have c3b2 : (l0.length == l1.length) = false:=by first | simpa using c3 | (simp at c3 ⊢;omega)
  obtain rfl:=Option.some.inj H
  go_enter Tryz.func30,Tryz.ntmps30
  go_wp2
  go_ret
  exact ⟨Er_,Lb_⟩
 rotate_right
 have c3b0 : ((l0.length : Int) == (l1.length : Int)) = true:=beq_iff_eq.mpr c3
 have c3b1 : ((l0.length : Int) != (l1.length : Int)) = false:=bne_eq_false_iff_eq.mpr c3
 have c3b2 : (l0.length == l1.length) = true:=by first | simpa using c3 | (simp at c3 ⊢;omega)
 clear c3
 have H':=Z_ H
 clear H
 go_enter Tryz.func30,Tryz.ntmps30
 go_wp2
 go_loopg [5] k (fun kq v5 w' => ∃ (x5_1 : Int),v5 = .int .i64 x5_1 ∧ Aside0 (laws_eqTermS.l0 kq l0 l1 x5_1 = some r) ∧ Aside0 (kq ≤ k) ∧ Aside0 (Below w.heap.size w w'))
 case atStart => exact ⟨(0),Sr_,H',⟨Nat.le_refl _⟩,⟨Lb_⟩⟩
 case round =>
  clear H'
  try clear c1
  try clear p2
  try clear c3
  try clear c3b0
  try clear c3b1
  try clear c3b2
  obtain ⟨x5_1,rfl,HA,HK1,HB⟩:=hrel
  cases gk with
  | zero => exact absurd HA.out (by simp [laws_eqTermS.l0])
  | succ k1 =>
   have H:=HA.out
   clear HA
   simp only [laws_eqTermS.l0] at H
   replace H:=iD_ H
   obtain ⟨c4b0,H⟩ | ⟨c4b0,H⟩:=H
   rotate_left
   ·obtain rfl:=Option.some.inj H
    go_wp2
    go_ret
    exact ⟨Er_,Lb_⟩
   rotate_right
   replace H:=iM_ H
   obtain ⟨c5b0,H⟩:=H
   replace H:=iM_ H
   obtain ⟨c6b0,H⟩:=H
   replace H:=bS_ H
   obtain ⟨t454,A7,H⟩:=H
   replace H:=iB_ H
   obtain ⟨rfl,H⟩ | ⟨rfl,H⟩:=H
   rotate_left
   ·obtain rfl:=Option.some.inj H
    try go_wp2
    replace HB:=Z_ (lD_ HB.out)
    have p452 : 0 ≤ (x5_1 : Int):=dA_
    have q452 : x5_1 < (l0.length : Int):=dA_
    obtain ⟨ad452,e452,hx452_0,hx452_1,hx452_2,hx452_3⟩:=at_T83 a0.out x5_1 p452 q452
    have hw452_3:=hx452_3
    have hw452_2:=hx452_2
    have hw452_1:=hx452_1
    have hw452_0:=hx452_0
    cases e452
    replace hx452_0:=cB_ HB hx452_0
    replace hx452_1:=cB_ HB hx452_1
    replace hx452_2:=cB_ HB hx452_2
    replace hx452_3:=cB_ HB hx452_3
    replace p452:=eq_true p452
    replace q452:=eq_true q452
    have p453 : 0 ≤ (x5_1 : Int):=dA_
    have q453 : x5_1 < (l1.length : Int):=dA_
    obtain ⟨ad453,e453,hx453_0,hx453_1,hx453_2,hx453_3⟩:=at_T83 a1.out x5_1 p453 q453
    have hw453_3:=hx453_3
    have hw453_2:=hx453_2
    have hw453_1:=hx453_1
    have hw453_0:=hx453_0
    cases e453
    replace hx453_0:=cB_ HB hx453_0
    replace hx453_1:=cB_ HB hx453_1
    replace hx453_2:=cB_ HB hx453_2
    replace hx453_3:=cB_ HB hx453_3
    replace p453:=eq_true p453
    replace q453:=eq_true q453
    refine start_ (n:=10) (S:=fun w' => w'.cell? (ad452.add ((x5_1).toNat * 4)) = some (.int .i64 ((rd_T83 l0 x5_1).f0)) ∧ w'.cell? ⟨(ad452.add ((x5_1).toNat * 4)).block,(ad452.add ((x5_1).toNat * 4)).off + 1,none⟩ = some (.int .i64 ((rd_T83 l0 x5_1).f1)) ∧ w'.cell? ⟨(ad452.add ((x5_1).toNat * 4)).block,(ad452.add ((x5_1).toNat * 4)).off + 2,none⟩ = some (.int .i64 ((rd_T83 l0 x5_1).f2)) ∧ w'.cell? ⟨(ad452.add ((x5_1).toNat * 4)).block,(ad452.add ((x5_1).toNat * 4)).off + 3,none⟩ = some (.int .i64 ((rd_T83 l0 x5_1).f3)) ∧ w'.cell? (ad453.add ((x5_1).toNat * 4)) = some (.int .i64 ((rd_T83 l1 x5_1).f0)) ∧ w'.cell? ⟨(ad453.add ((x5_1).toNat * 4)).block,(ad453.add ((x5_1).toNat * 4)).off + 1,none⟩ = some (.int .i64 ((rd_T83 l1 x5_1).f1)) ∧ w'.cell? ⟨(ad453.add ((x5_1).toNat * 4)).block,(ad453.add ((x5_1).toNat * 4)).off + 2,none⟩ = some (.int .i64 ((rd_T83 l1 x5_1).f2)) ∧ w'.cell? ⟨(ad453.add ((x5_1).toNat * 4)).block,(ad453.add ((x5_1).toNat * 4)).off + 3,none⟩ = some (.int .i64 ((rd_T83 l1 x5_1).f3))) (ds:=[]) (Bt 10 0) (by kernel_rfl) rfl rfl ⟨(cB_ HB hw452_0),(cB_ HB hw452_1),(cB_ HB hw452_2),(cB_ HB hw452_3),(cB_ HB hw453_0),(cB_ HB hw453_1),(cB_ HB hw453_2),(cB_ HB hw453_3)⟩ (fun hHeld => ?_);refine with_tabW laws_eqTermS.tab6 laws_eqTermS.bits6 (fun HT_ HW_ => ?_)
    generalize wr.drew = w11 at HB hx452_0 hx452_1 hx452_2 hx452_3 hx453_0 hx453_1 hx453_2 hx453_3 hHeld ⊢
    refine pu_ 0 (some 17) (Bt 10 1) (any_of HT_.out (by kernel_rfl)) ?_
    refine pu_ 1 (some 18) (Bt 10 3) (any_of HT_.out (by kernel_rfl)) ?_
    refine pu_ 2 (some 19) (Bt 10 7) (any_of HT_.out (by kernel_rfl)) ?_
    refine pu_ 4 (some 21) (Bt 10 23) (any_of HT_.out (by kernel_rfl)) ?_
    refine pu_ 5 (some 22) (Bt 10 55) (any_of HT_.out (by kernel_rfl)) ?_
    refine pu_ 6 (some 23) (Bt 10 119) (any_of HT_.out (by kernel_rfl)) ?_
    refine ta_ 3 (some 20) (Bt 10 127) (take_ofW HT_.out HW_.out (by kernel_rfl)) hHeld ?_
    refine ta_ 7 (some 24) (Bt 10 255) (take_ofW HT_.out HW_.out (by kernel_rfl)) hHeld ?_
    refine one_ (i:=8) (N:=some 25) (Bt 10 511) rfl rfl (one_of HT_.out (by kernel_rfl)) (by decide) (fun K hK => ?_)
    refine goes_ Tryz.func64 (by kernel_rfl) rfl #[.agg #[.int .i64 ((rd_T83 l0 x5_1).f0),.int .i64 ((rd_T83 l0 x5_1).f1),.int .i64 ((rd_T83 l0 x5_1).f2),.int .i64 ((rd_T83 l0 x5_1).f3)],.agg #[.int .i64 ((rd_T83 l1 x5_1).f0),.int .i64 ((rd_T83 l1 x5_1).f1),.int .i64 ((rd_T83 l1 x5_1).f2),.int .i64 ((rd_T83 l1 x5_1).f3)]] (by rfl) rfl rfl (by (try simp only [List.map_toArray,List.map_cons,List.map_nil]);first | done | rfl | (simp only [List.length_drop,List.length_take];rfl)) ?_
    with_reducible refine (laws_eqTerm.calls ((rd_T83 l0 x5_1).f0) ((rd_T83 l0 x5_1).f1) ((rd_T83 l0 x5_1).f2) ((rd_T83 l0 x5_1).f3) ((rd_T83 l1 x5_1).f0) ((rd_T83 l1 x5_1).f1) ((rd_T83 l1 x5_1).f2) ((rd_T83 l1 x5_1).f3) false _ A7.out).mono ?_
    rintro e w12 ⟨rfl,hb⟩
    refine ⟨_,rfl,?_⟩
    replace HB:=Z_ (lP_ Lb_ hb)
    (try clear hb)
    (try clear hb2)
    (try clear hk)
    (try clear hi)
    refine hK.out _ _ ⟨(cB_ HB hw452_0),(cB_ HB hw452_1),(cB_ HB hw452_2),(cB_ HB hw452_3),(cB_ HB hw453_0),(cB_ HB hw453_1),(cB_ HB hw453_2),(cB_ HB hw453_3)⟩ (fun hHeld => ?_)
    clear hK K
    refine norm_ (a':=?_) ?_ ?_
    rotate_left
    ·show Act.put _ (some 25) _ = _
     simp only [Act.put,lA_,lZ_,lS_,i64_w,i32_w]
     rfl
    refine pu_ 9 (some 26) (Bt 10 1023) (any_of HT_.out (by kernel_rfl)) ?_
    refine done_ (done_of HT_.out (by kernel_rfl)) ?_
    try go_wp2
    go_ret
    exact ⟨Er_,Lb_⟩
   rotate_right
   have H':=Z_ H
   clear H
   try go_wp2
   replace HB:=Z_ (lD_ HB.out)
   have p452 : 0 ≤ (x5_1 : Int):=dA_
   have q452 : x5_1 < (l0.length : Int):=dA_
   obtain ⟨ad452,e452,hx452_0,hx452_1,hx452_2,hx452_3⟩:=at_T83 a0.out x5_1 p452 q452
   have hw452_3:=hx452_3
   have hw452_2:=hx452_2
   have hw452_1:=hx452_1
   have hw452_0:=hx452_0
   cases e452
   replace hx452_0:=cB_ HB hx452_0
   replace hx452_1:=cB_ HB hx452_1
   replace hx452_2:=cB_ HB hx452_2
   replace hx452_3:=cB_ HB hx452_3
   replace p452:=eq_true p452
   replace q452:=eq_true q452
   have p453 : 0 ≤ (x5_1 : Int):=dA_
   have q453 : x5_1 < (l1.length : Int):=dA_
   obtain ⟨ad453,e453,hx453_0,hx453_1,hx453_2,hx453_3⟩:=at_T83 a1.out x5_1 p453 q453
   have hw453_3:=hx453_3
   have hw453_2:=hx453_2
   have hw453_1:=hx453_1
   have hw453_0:=hx453_0
   cases e453
   replace hx453_0:=cB_ HB hx453_0
   replace hx453_1:=cB_ HB hx453_1
   replace hx453_2:=cB_ HB hx453_2
   replace hx453_3:=cB_ HB hx453_3
   replace p453:=eq_true p453
   replace q453:=eq_true q453
   refine start_ (n:=10) (S:=fun w' => w'.cell? (ad452.add ((x5_1).toNat * 4)) = some (.int .i64 ((rd_T83 l0 x5_1).f0)) ∧ w'.cell? ⟨(ad452.add ((x5_1).toNat * 4)).block,(ad452.add ((x5_1).toNat * 4)).off + 1,none⟩ = some (.int .i64 ((rd_T83 l0 x5_1).f1)) ∧ w'.cell? ⟨(ad452.add ((x5_1).toNat * 4)).block,(ad452.add ((x5_1).toNat * 4)).off + 2,none⟩ = some (.int .i64 ((rd_T83 l0 x5_1).f2)) ∧ w'.cell? ⟨(ad452.add ((x5_1).toNat * 4)).block,(ad452.add ((x5_1).toNat * 4)).off + 3,none⟩ = some (.int .i64 ((rd_T83 l0 x5_1).f3)) ∧ w'.cell? (ad453.add ((x5_1).toNat * 4)) = some (.int .i64 ((rd_T83 l1 x5_1).f0)) ∧ w'.cell? ⟨(ad453.add ((x5_1).toNat * 4)).block,(ad453.add ((x5_1).toNat * 4)).off + 1,none⟩ = some (.int .i64 ((rd_T83 l1 x5_1).f1)) ∧ w'.cell? ⟨(ad453.add ((x5_1).toNat * 4)).block,(ad453.add ((x5_1).toNat * 4)).off + 2,none⟩ = some (.int .i64 ((rd_T83 l1 x5_1).f2)) ∧ w'.cell? ⟨(ad453.add ((x5_1).toNat * 4)).block,(ad453.add ((x5_1).toNat * 4)).off + 3,none⟩ = some (.int .i64 ((rd_T83 l1 x5_1).f3))) (ds:=[]) (Bt 10 0) (by kernel_rfl) rfl rfl ⟨(cB_ HB hw452_0),(cB_ HB hw452_1),(cB_ HB hw452_2),(cB_ HB hw452_3),(cB_ HB hw453_0),(cB_ HB hw453_1),(cB_ HB hw453_2),(cB_ HB hw453_3)⟩ (fun hHeld => ?_);refine with_tabW laws_eqTermS.tab6 laws_eqTermS.bits6 (fun HT_ HW_ => ?_)
   generalize wr.drew = w9 at HB hx452_0 hx452_1 hx452_2 hx452_3 hx453_0 hx453_1 hx453_2 hx453_3 hHeld ⊢
   refine pu_ 0 (some 17) (Bt 10 1) (any_of HT_.out (by kernel_rfl)) ?_
   refine pu_ 1 (some 18) (Bt 10 3) (any_of HT_.out (by kernel_rfl)) ?_
   refine pu_ 2 (some 19) (Bt 10 7) (any_of HT_.out (by kernel_rfl)) ?_
   refine pu_ 4 (some 21) (Bt 10 23) (any_of HT_.out (by kernel_rfl)) ?_
   refine pu_ 5 (some 22) (Bt 10 55) (any_of HT_.out (by kernel_rfl)) ?_
   refine pu_ 6 (some 23) (Bt 10 119) (any_of HT_.out (by kernel_rfl)) ?_
   refine ta_ 3 (some 20) (Bt 10 127) (take_ofW HT_.out HW_.out (by kernel_rfl)) hHeld ?_
   refine ta_ 7 (some 24) (Bt 10 255) (take_ofW HT_.out HW_.out (by kernel_rfl)) hHeld ?_
   refine one_ (i:=8) (N:=some 25) (Bt 10 511) rfl rfl (one_of HT_.out (by kernel_rfl)) (by decide) (fun K hK => ?_)
   refine goes_ Tryz.func64 (by kernel_rfl) rfl #[.agg #[.int .i64 ((rd_T83 l0 x5_1).f0),.int .i64 ((rd_T83 l0 x5_1).f1),.int .i64 ((rd_T83 l0 x5_1).f2),.int .i64 ((rd_T83 l0 x5_1).f3)],.agg #[.int .i64 ((rd_T83 l1 x5_1).f0),.int .i64 ((rd_T83 l1 x5_1).f1),.int .i64 ((rd_T83 l1 x5_1).f2),.int .i64 ((rd_T83 l1 x5_1).f3)]] (by rfl) rfl rfl (by (try simp only [List.map_toArray,List.map_cons,List.map_nil]);first | done | rfl | (simp only [List.length_drop,List.length_take];rfl)) ?_
   with_reducible refine (laws_eqTerm.calls ((rd_T83 l0 x5_1).f0) ((rd_T83 l0 x5_1).f1) ((rd_T83 l0 x5_1).f2) ((rd_T83 l0 x5_1).f3) ((rd_T83 l1 x5_1).f0) ((rd_T83 l1 x5_1).f1) ((rd_T83 l1 x5_1).f2) ((rd_T83 l1 x5_1).f3) true _ A7.out).mono ?_
   rintro e w10 ⟨rfl,hb⟩
   refine ⟨_,rfl,?_⟩
   replace HB:=Z_ (lP_ Lb_ hb)
   (try clear hb)
   (try clear hb2)
   (try clear hk)
   (try clear hi)
   refine hK.out _ _ ⟨(cB_ HB hw452_0),(cB_ HB hw452_1),(cB_ HB hw452_2),(cB_ HB hw452_3),(cB_ HB hw453_0),(cB_ HB hw453_1),(cB_ HB hw453_2),(cB_ HB hw453_3)⟩ (fun hHeld => ?_)
   clear hK K
   refine norm_ (a':=?_) ?_ ?_
   rotate_left
   ·show Act.put _ (some 25) _ = _
    simp only [Act.put,lA_,lZ_,lS_,i64_w,i32_w]
    rfl
   refine pu_ 9 (some 26) (Bt 10 1023) (any_of HT_.out (by kernel_rfl)) ?_
   refine done_ (done_of HT_.out (by kernel_rfl)) ?_
   try go_wp2
   go_roundg k1
   case measure => have:=HK1.out;omega
   case rel => exact ⟨(wrap64 (x5_1 + 1)),Sr_,H',⟨by have:=HK1.out;omega⟩,⟨Lb_⟩⟩
def laws_eqKeys.f (a0_0 a0_1 a0_2 a0_3 a1_0 a1_1 a1_2 a1_3 : Int) : Option (Bool):=if a0_0 = a1_0 then (if a0_1 = a1_1 then (if a0_2 = a1_2 then (if a0_3 = a1_3 then (some true) else (some false)) else (some false)) else (some false)) else (some false)
set_option maxHeartbeats 8000000 in
set_option maxRecDepth 100000 in
theorem laws_eqKeys.calls (a0_0 a0_1 a0_2 a0_3 a1_0 a1_1 a1_2 a1_3 : Int) (r : Bool) (w : World) (h : laws_eqKeys.f a0_0 a0_1 a0_2 a0_3 a1_0 a1_1 a1_2 a1_3 = some r) :
  Calls Tryz.prog 114 #[.agg #[.int .i64 a0_0,.int .i64 a0_1,.int .i64 a0_2,.int .i64 a0_3],.agg #[.int .i64 a1_0,.int .i64 a1_1,.int .i64 a1_2,.int .i64 a1_3]] w fun e w' => e = .returned (.bool r) ∧ Below w.heap.size w w':=by
 have hu110:=Tryz.underlying110
 have HB:=Z_ (Below.refl w.heap.size w)
 unfold laws_eqKeys.f at h
 have H:=h
 clear h
 replace H:=iE_ H
 obtain ⟨c3b0,c3b1,H⟩ | ⟨c3b0,c3b1,H⟩:=H
 replace H:=iE_ H
 obtain ⟨c4b0,c4b1,H⟩ | ⟨c4b0,c4b1,H⟩:=H
 replace H:=iE_ H
 obtain ⟨c5b0,c5b1,H⟩ | ⟨c5b0,c5b1,H⟩:=H
 replace H:=iE_ H
 obtain ⟨c6b0,c6b1,H⟩ | ⟨c6b0,c6b1,H⟩:=H
 all_goals
  obtain rfl:=Option.some.inj H
  go_enter Tryz.func114,Tryz.ntmps114
  go_wp2_with (first | ((with_reducible refine gD_ 2 rfl ?_);refine bx_ #[.int .i64 a0_0,.int .i64 a0_1,.int .i64 a0_2,.int .i64 a0_3] 110 ?_;intro a3 hg w12 hbox hb;have a0:=Z_ hbox;have a5:=Z_ ((by rw [hg];exact (below_size Lb_) : w.heap.size ≤ a3));replace HB:=Z_ (lP_ Lb_ hb);clear hb hbox hg) | ((with_reducible refine gD_ 3 rfl ?_);refine bx_ #[.int .i64 a1_0,.int .i64 a1_1,.int .i64 a1_2,.int .i64 a1_3] 110 ?_;intro a4 hg w13 hbox hb;have a6:=Z_ hbox;have a7:=Z_ ((by rw [hg];exact (below_size HB.out) : w.heap.size ≤ a4));replace HB:=Z_ (lP_ HB.out hb);have a1:=Z_ ((by rw [hg];exact Nat.ne_of_lt (blk_lt a0.out) : a3 ≠ a4));replace a0:=Z_ (bB_ a0.out hb);have a2:=Z_ a1.out.symm;clear hb hbox hg;have a8:=a1.out;have a9:=a2.out;obtain ⟨_,_,_,_,_,_,_,_⟩:=bc4 a0.out;obtain ⟨_,_,_,_,_,_,_,_⟩:=bc4 a6.out))
  go_ret
  exact ⟨Er_,Lb_⟩
def laws_eqWindow.f (a0_0 a0_1 a1_0 a1_1 : Int) : Option (Bool):=if a0_0 = a1_0 then (if a0_1 = a1_1 then (some true) else (some false)) else (some false)
set_option maxHeartbeats 8000000 in
set_option maxRecDepth 100000 in
theorem laws_eqWindow.calls (a0_0 a0_1 a1_0 a1_1 : Int) (r : Bool) (w : World) (h : laws_eqWindow.f a0_0 a0_1 a1_0 a1_1 = some r) :
  Calls Tryz.prog 115 #[.agg #[.int .i64 a0_0,.int .i64 a0_1],.agg #[.int .i64 a1_0,.int .i64 a1_1]] w fun e w' => e = .returned (.bool r) ∧ Below w.heap.size w w':=by
 have hu112:=Tryz.underlying112
 have HB:=Z_ (Below.refl w.heap.size w)
 unfold laws_eqWindow.f at h
 have H:=h
 clear h
 replace H:=iE_ H
 obtain ⟨c3b0,c3b1,H⟩ | ⟨c3b0,c3b1,H⟩:=H
 replace H:=iE_ H
 obtain ⟨c4b0,c4b1,H⟩ | ⟨c4b0,c4b1,H⟩:=H
 all_goals
  obtain rfl:=Option.some.inj H
  go_enter Tryz.func115,Tryz.ntmps115
  go_wp2_with (first | ((with_reducible refine gD_ 2 rfl ?_);refine bx_ #[.int .i64 a0_0,.int .i64 a0_1] 112 ?_;intro a3 hg w10 hbox hb;have a0:=Z_ hbox;have a5:=Z_ ((by rw [hg];exact (below_size Lb_) : w.heap.size ≤ a3));replace HB:=Z_ (lP_ Lb_ hb);clear hb hbox hg) | ((with_reducible refine gD_ 3 rfl ?_);refine bx_ #[.int .i64 a1_0,.int .i64 a1_1] 112 ?_;intro a4 hg w11 hbox hb;have a6:=Z_ hbox;have a7:=Z_ ((by rw [hg];exact (below_size HB.out) : w.heap.size ≤ a4));replace HB:=Z_ (lP_ HB.out hb);have a1:=Z_ ((by rw [hg];exact Nat.ne_of_lt (blk_lt a0.out) : a3 ≠ a4));replace a0:=Z_ (bB_ a0.out hb);have a2:=Z_ a1.out.symm;clear hb hbox hg;have a8:=a1.out;have a9:=a2.out;obtain ⟨_,_,_,_⟩:=bc2 a0.out;obtain ⟨_,_,_,_⟩:=bc2 a6.out))
  go_ret
  exact ⟨Er_,Lb_⟩
def laws_eqTalk.f (a0_0 a0_1 a0_2 a0_3 a0_4 a0_5 a0_6 a0_7 a0_8 a0_9 a0_10 a0_11 a0_12 a0_13 a0_14 a0_15 a0_16 a0_17 a0_18 a0_19 a1_0 a1_1 a1_2 a1_3 a1_4 a1_5 a1_6 a1_7 a1_8 a1_9 a1_10 a1_11 a1_12 a1_13 a1_14 a1_15 a1_16 a1_17 a1_18 a1_19 : Int) : Option (Bool):=if a0_0 = a1_0 then (if a0_1 = a1_1 then (if a0_2 = a1_2 then (if a0_3 = a1_3 then (if a0_4 = a1_4 then (if a0_5 = a1_5 then (if a0_6 = a1_6 then (if a0_7 = a1_7 then (if a0_8 = a1_8 then (if a0_9 = a1_9 then (if a0_10 = a1_10 then ((laws_eqKeys.f a0_11 a0_12 a0_13 a0_14 a1_11 a1_12 a1_13 a1_14).bind fun t461 => (if t461 = true then (if a0_15 = a1_15 then (if a0_16 = a1_16 then (if a0_17 = a1_17 then ((laws_eqWindow.f a0_18 a0_19 a1_18 a1_19).bind fun t462 => (if t462 = true then (some true) else (some false))) else (some false)) else (some false)) else (some false)) else (some false))) else (some false)) else (some false)) else (some false)) else (some false)) else (some false)) else (some false)) else (some false)) else (some false)) else (some false)) else (some false)) else (some false)
set_option maxHeartbeats 8000000 in
set_option maxRecDepth 100000 in
theorem laws_eqTalk.calls (a0_0 a0_1 a0_2 a0_3 a0_4 a0_5 a0_6 a0_7 a0_8 a0_9 a0_10 a0_11 a0_12 a0_13 a0_14 a0_15 a0_16 a0_17 a0_18 a0_19 a1_0 a1_1 a1_2 a1_3 a1_4 a1_5 a1_6 a1_7 a1_8 a1_9 a1_10 a1_11 a1_12 a1_13 a1_14 a1_15 a1_16 a1_17 a1_18 a1_19 : Int) (r : Bool) (w : World) (h : laws_eqTalk.f a0_0 a0_1 a0_2 a0_3 a0_4 a0_5 a0_6 a0_7 a0_8 a0_9 a0_10 a0_11 a0_12 a0_13 a0_14 a0_15 a0_16 a0_17 a0_18 a0_19 a1_0 a1_1 a1_2 a1_3 a1_4 a1_5 a1_6 a1_7 a1_8 a1_9 a1_10 a1_11 a1_12 a1_13 a1_14 a1_15 a1_16 a1_17 a1_18 a1_19 = some r) :
  Calls Tryz.prog 105 #[.agg #[.int .i64 a0_0,.int .i64 a0_1,.int .i64 a0_2,.int .i64 a0_3,.int .i64 a0_4,.int .i64 a0_5,.int .i64 a0_6,.int .i64 a0_7,.int .i64 a0_8,.int .i64 a0_9,.int .i64 a0_10,.int .i64 a0_11,.int .i64 a0_12,.int .i64 a0_13,.int .i64 a0_14,.int .i64 a0_15,.int .i64 a0_16,.int .i64 a0_17,.int .i64 a0_18,.int .i64 a0_19],.agg #[.int .i64 a1_0,.int .i64 a1_1,.int .i64 a1_2,.int .i64 a1_3,.int .i64 a1_4,.int .i64 a1_5,.int .i64 a1_6,.int .i64 a1_7,.int .i64 a1_8,.int .i64 a1_9,.int .i64 a1_10,.int .i64 a1_11,.int .i64 a1_12,.int .i64 a1_13,.int .i64 a1_14,.int .i64 a1_15,.int .i64 a1_16,.int .i64 a1_17,.int .i64 a1_18,.int .i64 a1_19]] w fun e w' => e = .returned (.bool r) ∧ Below w.heap.size w w':=by
 have hu114:=Tryz.underlying114
 have hu110:=Tryz.underlying110
 have hu112:=Tryz.underlying112
 have HB:=Z_ (Below.refl w.heap.size w)
 unfold laws_eqTalk.f at h
 have H:=h
 clear h
 replace H:=iE_ H
 obtain ⟨c3b0,c3b1,H⟩ | ⟨c3b0,c3b1,H⟩:=H
 replace H:=iE_ H
 obtain ⟨c4b0,c4b1,H⟩ | ⟨c4b0,c4b1,H⟩:=H
 replace H:=iE_ H
 obtain ⟨c5b0,c5b1,H⟩ | ⟨c5b0,c5b1,H⟩:=H
 replace H:=iE_ H
 obtain ⟨c6b0,c6b1,H⟩ | ⟨c6b0,c6b1,H⟩:=H
 replace H:=iE_ H
 obtain ⟨c7b0,c7b1,H⟩ | ⟨c7b0,c7b1,H⟩:=H
 replace H:=iE_ H
 obtain ⟨c8b0,c8b1,H⟩ | ⟨c8b0,c8b1,H⟩:=H
 replace H:=iE_ H
 obtain ⟨c9b0,c9b1,H⟩ | ⟨c9b0,c9b1,H⟩:=H
 replace H:=iE_ H
 obtain ⟨c10b0,c10b1,H⟩ | ⟨c10b0,c10b1,H⟩:=H
 replace H:=iE_ H
 obtain ⟨c11b0,c11b1,H⟩ | ⟨c11b0,c11b1,H⟩:=H
 replace H:=iE_ H
 obtain ⟨c12b0,c12b1,H⟩ | ⟨c12b0,c12b1,H⟩:=H
 replace H:=iE_ H
 obtain ⟨c13b0,c13b1,H⟩ | ⟨c13b0,c13b1,H⟩:=H
 replace H:=bS_ H
 obtain ⟨t461,a8,H⟩:=H
 replace H:=iB_ H
 obtain ⟨rfl,H⟩ | ⟨rfl,H⟩:=H
 replace H:=iE_ H
 obtain ⟨c16b0,c16b1,H⟩ | ⟨c16b0,c16b1,H⟩:=H
 replace H:=iE_ H
 obtain ⟨c17b0,c17b1,H⟩ | ⟨c17b0,c17b1,H⟩:=H
 replace H:=iE_ H
 obtain ⟨c18b0,c18b1,H⟩ | ⟨c18b0,c18b1,H⟩:=H
 replace H:=bS_ H
 obtain ⟨t462,ab,H⟩:=H
 replace H:=iB_ H
 obtain ⟨rfl,H⟩ | ⟨rfl,H⟩:=H
 all_goals
  obtain rfl:=Option.some.inj H
  go_enter Tryz.func105,Tryz.ntmps105
  go_wp2_with (first | ((with_reducible refine gD_ 2 rfl ?_);refine bx_ #[.int .i64 a0_0,.int .i64 a0_1,.int .i64 a0_2,.int .i64 a0_3,.int .i64 a0_4,.int .i64 a0_5,.int .i64 a0_6,.int .i64 a0_7,.int .i64 a0_8,.int .i64 a0_9,.int .i64 a0_10,.int .i64 a0_11,.int .i64 a0_12,.int .i64 a0_13,.int .i64 a0_14,.int .i64 a0_15,.int .i64 a0_16,.int .i64 a0_17,.int .i64 a0_18,.int .i64 a0_19] 114 ?_;intro a4 hg w104 hbox hb;have a0:=Z_ hbox;have a6:=Z_ ((by rw [hg];exact (below_size Lb_) : w.heap.size ≤ a4));replace HB:=Z_ (lP_ Lb_ hb);clear hb hbox hg) | ((with_reducible refine gD_ 3 rfl ?_);refine bx_ #[.int .i64 a1_0,.int .i64 a1_1,.int .i64 a1_2,.int .i64 a1_3,.int .i64 a1_4,.int .i64 a1_5,.int .i64 a1_6,.int .i64 a1_7,.int .i64 a1_8,.int .i64 a1_9,.int .i64 a1_10,.int .i64 a1_11,.int .i64 a1_12,.int .i64 a1_13,.int .i64 a1_14,.int .i64 a1_15,.int .i64 a1_16,.int .i64 a1_17,.int .i64 a1_18,.int .i64 a1_19] 114 ?_;intro a5 hg w100 hbox hb;have a3:=Z_ hbox;have a7:=Z_ ((by rw [hg];exact (below_size HB.out) : w.heap.size ≤ a5));replace HB:=Z_ (lP_ HB.out hb);have a1:=Z_ ((by rw [hg];exact Nat.ne_of_lt (blk_lt a0.out) : a4 ≠ a5));replace a0:=Z_ (bB_ a0.out hb);have a2:=Z_ a1.out.symm;clear hb hbox hg;have ac:=a1.out;have ad:=a2.out;obtain ⟨_,_,_,_,_,_,_,_,_,_,_,_,_,_,_,_,_,_,_,_,_,_,_,_,_,_,_,_,_,_,_,_,_,_,_,_,_,_,_,_⟩:=bc20 a0.out;obtain ⟨_,_,_,_,_,_,_,_,_,_,_,_,_,_,_,_,_,_,_,_,_,_,_,_,_,_,_,_,_,_,_,_,_,_,_,_,_,_,_,_⟩:=bc20 a3.out) | ((with_reducible refine gate_callee (f:=114) rfl ?_);refine goesA_ (some 64) rfl rfl Tryz.func114 (by kernel_rfl) rfl #[.agg #[.int .i64 a0_11,.int .i64 a0_12,.int .i64 a0_13,.int .i64 a0_14],.agg #[.int .i64 a1_11,.int .i64 a1_12,.int .i64 a1_13,.int .i64 a1_14]] rfl ?_;(with_reducible refine (laws_eqKeys.calls a0_11 a0_12 a0_13 a0_14 a1_11 a1_12 a1_13 a1_14 _ _ a8.out).mono ?_);rintro e w26 ⟨rfl,hb⟩;refine ⟨_,rfl,?_⟩;replace a0:=Z_ (bB_ a0.out hb);replace a3:=Z_ (bB_ a3.out hb);replace HB:=Z_ (lP_ HB.out hb);(try clear hb);obtain ⟨_,_,_,_,_,_,_,_,_,_,_,_,_,_,_,_,_,_,_,_,_,_,_,_,_,_,_,_,_,_,_,_,_,_,_,_,_,_,_,_⟩:=bc20 a0.out;obtain ⟨_,_,_,_,_,_,_,_,_,_,_,_,_,_,_,_,_,_,_,_,_,_,_,_,_,_,_,_,_,_,_,_,_,_,_,_,_,_,_,_⟩:=bc20 a3.out) | ((with_reducible refine gate_callee (f:=115) rfl ?_);refine goesA_ (some 85) rfl rfl Tryz.func115 (by kernel_rfl) rfl #[.agg #[.int .i64 a0_18,.int .i64 a0_19],.agg #[.int .i64 a1_18,.int .i64 a1_19]] rfl ?_;(with_reducible refine (laws_eqWindow.calls a0_18 a0_19 a1_18 a1_19 _ _ ab.out).mono ?_);rintro e w29 ⟨rfl,hb⟩;refine ⟨_,rfl,?_⟩;replace HB:=Z_ (lP_ Lb_ hb);(try clear hb)))
  go_ret
  exact ⟨Er_,Lb_⟩
def laws_eqTalkS.l0 : Nat → List (S114) → List (S114) → Int → Option (Bool)
 | 0,_,_,_ => none
 | k + 1,x0,x1,x5 => if x5 < (x0.length : Int) then (if 0 ≤ x5 then (if x5 < (x1.length : Int) then ((laws_eqTalk.f ((rd_T114 x0 x5).f0) ((rd_T114 x0 x5).f1) ((rd_T114 x0 x5).f2) ((rd_T114 x0 x5).f3) ((rd_T114 x0 x5).f4) ((rd_T114 x0 x5).f5) ((rd_T114 x0 x5).f6) ((rd_T114 x0 x5).f7) ((rd_T114 x0 x5).f8) ((rd_T114 x0 x5).f9) ((rd_T114 x0 x5).f10) ((rd_T114 x0 x5).f11.f0) ((rd_T114 x0 x5).f11.f1) ((rd_T114 x0 x5).f11.f2) ((rd_T114 x0 x5).f11.f3) ((rd_T114 x0 x5).f12) ((rd_T114 x0 x5).f13) ((rd_T114 x0 x5).f14) ((rd_T114 x0 x5).f15.f0) ((rd_T114 x0 x5).f15.f1) ((rd_T114 x1 x5).f0) ((rd_T114 x1 x5).f1) ((rd_T114 x1 x5).f2) ((rd_T114 x1 x5).f3) ((rd_T114 x1 x5).f4) ((rd_T114 x1 x5).f5) ((rd_T114 x1 x5).f6) ((rd_T114 x1 x5).f7) ((rd_T114 x1 x5).f8) ((rd_T114 x1 x5).f9) ((rd_T114 x1 x5).f10) ((rd_T114 x1 x5).f11.f0) ((rd_T114 x1 x5).f11.f1) ((rd_T114 x1 x5).f11.f2) ((rd_T114 x1 x5).f11.f3) ((rd_T114 x1 x5).f12) ((rd_T114 x1 x5).f13) ((rd_T114 x1 x5).f14) ((rd_T114 x1 x5).f15.f0) ((rd_T114 x1 x5).f15.f1)).bind fun t465 => (if t465 = true then (laws_eqTalkS.l0 k x0 x1 (wrap64 (x5 + 1))) else (some false))) else (none)) else (none)) else (some true)
def laws_eqTalkS.f (k : Nat) (l0 l1 : List (S114)) : Option (Bool):=if (l0.length : Int) = (l1.length : Int) then (laws_eqTalkS.l0 k l0 l1 0) else (some false)
def laws_eqTalkS.T6 : Bool × List (List Nat × List Nat):=(true,[([],[]),([],[]),([0,1],[0,1]),([2],[2]),([],[]),([],[]),([4,5],[4,5]),([6],[6]),([3,7],[3,7]),([8],[8])])
def laws_eqTalkS.B6 : List Nat:=[0,0,3,7,0,0,48,112,255,511]
theorem laws_eqTalkS.tab6 : rtab .any (opsOf Tryz.f89 6) = laws_eqTalkS.T6:=by kernel_rfl
theorem laws_eqTalkS.bits6 : waitsOk laws_eqTalkS.T6.2 laws_eqTalkS.B6 = true:=by kernel_rfl
set_option maxHeartbeats 8000000 in
set_option maxRecDepth 100000 in
theorem laws_eqTalkS.calls (k : Nat) (A0 : Option Addr) (c0 : Nat) (l0 : List (S114)) (A1 : Option Addr) (c1 : Nat) (l1 : List (S114)) (r : Bool) (w : World) (hr0 : Kd.C k114 w A0 l0.length l0) (hc0 : l0.length ≤ c0) (hr1 : Kd.C k114 w A1 l1.length l1) (hc1 : l1.length ≤ c1) (h : laws_eqTalkS.f k l0 l1 = some r) :
  Calls Tryz.prog 89 #[.slice A0 l0.length c0,.slice A1 l1.length c1] w fun e w' => e = .returned (.bool r) ∧ Below w.heap.size w w':=by
 have hu114:=Tryz.underlying114
 have a0:=Z_ hr0
 have a3:=Z_ hc0
 clear hr0 hc0
 have a1:=Z_ hr1
 have a4:=Z_ hc1
 clear hr1 hc1
 have HB:=Z_ (Below.refl w.heap.size w)
 unfold laws_eqTalkS.f at h
 have H:=h
 clear h
 replace H:=iC_ H
 obtain ⟨c3,H⟩ | ⟨c3,H⟩:=H
 rotate_left
 ·have c3b0 : ((l0.length : Int) == (l1.length : Int)) = false:=beq_eq_false_iff_ne.mpr c3
  have c3b1 : ((l0.length : Int) != (l1.length : Int)) = true:=bne_iff_ne.mpr c3
  have c3b2 : (l0.length == l1.length) = false:=by first | simpa using c3 | (simp at c3 ⊢;omega)
  obtain rfl:=Option.some.inj H
  go_enter Tryz.func89,Tryz.ntmps89
  go_wp2
  go_ret
  exact ⟨Er_,Lb_⟩
 rotate_right
 have c3b0 : ((l0.length : Int) == (l1.length : Int)) = true:=beq_iff_eq.mpr c3
 have c3b1 : ((l0.length : Int) != (l1.length : Int)) = false:=bne_eq_false_iff_eq.mpr c3
 have c3b2 : (l0.length == l1.length) = true:=by first | simpa using c3 | (simp at c3 ⊢;omega)
 clear c3
 have H':=Z_ H
 clear H
 go_enter Tryz.func89,Tryz.ntmps89
 go_wp2
 go_loopg [5] k (fun kq v5 w' => ∃ (x5_1 : Int),v5 = .int .i64 x5_1 ∧ Aside0 (laws_eqTalkS.l0 kq l0 l1 x5_1 = some r) ∧ Aside0 (kq ≤ k) ∧ Aside0 (Below w.heap.size w w'))
 case atStart => exact ⟨(0),Sr_,H',⟨Nat.le_refl _⟩,⟨Lb_⟩⟩
 case round =>
  clear H'
  try clear c1
  try clear p2
  try clear c3
  try clear c3b0
  try clear c3b1
  try clear c3b2
  obtain ⟨x5_1,rfl,HA,HK1,HB⟩:=hrel
  cases gk with
  | zero => exact absurd HA.out (by simp [laws_eqTalkS.l0])
  | succ k1 =>
   have H:=HA.out
   clear HA
   simp only [laws_eqTalkS.l0] at H
   replace H:=iD_ H
   obtain ⟨c4b0,H⟩ | ⟨c4b0,H⟩:=H
   rotate_left
   ·obtain rfl:=Option.some.inj H
    go_wp2
    go_ret
    exact ⟨Er_,Lb_⟩
   rotate_right
   replace H:=iM_ H
   obtain ⟨c5b0,H⟩:=H
   replace H:=iM_ H
   obtain ⟨c6b0,H⟩:=H
   replace H:=bS_ H
   obtain ⟨t465,A7,H⟩:=H
   replace H:=iB_ H
   obtain ⟨rfl,H⟩ | ⟨rfl,H⟩:=H
   rotate_left
   ·obtain rfl:=Option.some.inj H
    try go_wp2
    replace HB:=Z_ (lD_ HB.out)
    have p463 : 0 ≤ (x5_1 : Int):=dA_
    have q463 : x5_1 < (l0.length : Int):=dA_
    obtain ⟨ad463,e463,hL463⟩:=at_L114 a0.out x5_1 p463 q463
    have hW463:=hL463
    cases e463
    replace hL463:=RowAt.below (B:=0) hL463 HB.out
    replace p463:=eq_true p463
    replace q463:=eq_true q463
    have p464 : 0 ≤ (x5_1 : Int):=dA_
    have q464 : x5_1 < (l1.length : Int):=dA_
    obtain ⟨ad464,e464,hL464⟩:=at_L114 a1.out x5_1 p464 q464
    have hW464:=hL464
    cases e464
    replace hL464:=RowAt.below (B:=0) hL464 HB.out
    replace p464:=eq_true p464
    replace q464:=eq_true q464
    refine start_ (n:=10) (S:=fun w' => RowAt w' (ad463.add ((x5_1).toNat * 20)) [.int .i64 ((rd_T114 l0 x5_1).f0),.int .i64 ((rd_T114 l0 x5_1).f1),.int .i64 ((rd_T114 l0 x5_1).f2),.int .i64 ((rd_T114 l0 x5_1).f3),.int .i64 ((rd_T114 l0 x5_1).f4),.int .i64 ((rd_T114 l0 x5_1).f5),.int .i64 ((rd_T114 l0 x5_1).f6),.int .i64 ((rd_T114 l0 x5_1).f7),.int .i64 ((rd_T114 l0 x5_1).f8),.int .i64 ((rd_T114 l0 x5_1).f9),.int .i64 ((rd_T114 l0 x5_1).f10),.int .i64 ((rd_T114 l0 x5_1).f11.f0),.int .i64 ((rd_T114 l0 x5_1).f11.f1),.int .i64 ((rd_T114 l0 x5_1).f11.f2),.int .i64 ((rd_T114 l0 x5_1).f11.f3),.int .i64 ((rd_T114 l0 x5_1).f12),.int .i64 ((rd_T114 l0 x5_1).f13),.int .i64 ((rd_T114 l0 x5_1).f14),.int .i64 ((rd_T114 l0 x5_1).f15.f0),.int .i64 ((rd_T114 l0 x5_1).f15.f1)] ∧ RowAt w' (ad464.add ((x5_1).toNat * 20)) [.int .i64 ((rd_T114 l1 x5_1).f0),.int .i64 ((rd_T114 l1 x5_1).f1),.int .i64 ((rd_T114 l1 x5_1).f2),.int .i64 ((rd_T114 l1 x5_1).f3),.int .i64 ((rd_T114 l1 x5_1).f4),.int .i64 ((rd_T114 l1 x5_1).f5),.int .i64 ((rd_T114 l1 x5_1).f6),.int .i64 ((rd_T114 l1 x5_1).f7),.int .i64 ((rd_T114 l1 x5_1).f8),.int .i64 ((rd_T114 l1 x5_1).f9),.int .i64 ((rd_T114 l1 x5_1).f10),.int .i64 ((rd_T114 l1 x5_1).f11.f0),.int .i64 ((rd_T114 l1 x5_1).f11.f1),.int .i64 ((rd_T114 l1 x5_1).f11.f2),.int .i64 ((rd_T114 l1 x5_1).f11.f3),.int .i64 ((rd_T114 l1 x5_1).f12),.int .i64 ((rd_T114 l1 x5_1).f13),.int .i64 ((rd_T114 l1 x5_1).f14),.int .i64 ((rd_T114 l1 x5_1).f15.f0),.int .i64 ((rd_T114 l1 x5_1).f15.f1)]) (ds:=[]) (Bt 10 0) (by kernel_rfl) rfl rfl ⟨(RowAt.below (B:=0) hW463 HB.out),(RowAt.below (B:=0) hW464 HB.out)⟩ (fun hHeld => ?_);refine with_tabW laws_eqTalkS.tab6 laws_eqTalkS.bits6 (fun HT_ HW_ => ?_)
    generalize wr.drew = w11 at HB hL463 hL464 hHeld ⊢
    refine pu_ 0 (some 17) (Bt 10 1) (any_of HT_.out (by kernel_rfl)) ?_
    refine pu_ 1 (some 18) (Bt 10 3) (any_of HT_.out (by kernel_rfl)) ?_
    refine pu_ 2 (some 19) (Bt 10 7) (any_of HT_.out (by kernel_rfl)) ?_
    refine pu_ 4 (some 21) (Bt 10 23) (any_of HT_.out (by kernel_rfl)) ?_
    refine pu_ 5 (some 22) (Bt 10 55) (any_of HT_.out (by kernel_rfl)) ?_
    refine pu_ 6 (some 23) (Bt 10 119) (any_of HT_.out (by kernel_rfl)) ?_
    refine take_ (i:=3) (N:=some 20) (v:=?_) (a':=?_) (Bt 10 127) rfl rfl (take_ofW HT_.out HW_.out (by kernel_rfl)) (fun _ _ _ h => h) (Or.inl ⟨by rfl,?_⟩) hHeld ?_ ?_
    rotate_left
    ·rintro w' ⟨s0,s1⟩
     first | (refine (exec_loadRow (by rfl) (by rfl) s0 Tryz.underlying114 rfl size114_).trans ?_;with_reducible rfl) | (refine (exec_loadRow (by rfl) (by rfl) s0 Tryz.underlying142 rfl size142_).trans ?_;with_reducible rfl) | (refine (exec_loadRow (by rfl) (by rfl) s1 Tryz.underlying114 rfl size114_).trans ?_;with_reducible rfl) | (refine (exec_loadRow (by rfl) (by rfl) s1 Tryz.underlying142 rfl size142_).trans ?_;with_reducible rfl) | (go_simp;with_reducible rfl)
    rotate_left
    ·simp only [Act.put,lA_,lZ_,lS_,i64_w,i32_w]
     rfl
    refine take_ (i:=7) (N:=some 24) (v:=?_) (a':=?_) (Bt 10 255) rfl rfl (take_ofW HT_.out HW_.out (by kernel_rfl)) (fun _ _ _ h => h) (Or.inl ⟨by rfl,?_⟩) hHeld ?_ ?_
    rotate_left
    ·rintro w' ⟨s0,s1⟩
     first | (refine (exec_loadRow (by rfl) (by rfl) s0 Tryz.underlying114 rfl size114_).trans ?_;with_reducible rfl) | (refine (exec_loadRow (by rfl) (by rfl) s0 Tryz.underlying142 rfl size142_).trans ?_;with_reducible rfl) | (refine (exec_loadRow (by rfl) (by rfl) s1 Tryz.underlying114 rfl size114_).trans ?_;with_reducible rfl) | (refine (exec_loadRow (by rfl) (by rfl) s1 Tryz.underlying142 rfl size142_).trans ?_;with_reducible rfl) | (go_simp;with_reducible rfl)
    rotate_left
    ·simp only [Act.put,lA_,lZ_,lS_,i64_w,i32_w]
     rfl
    refine one_ (i:=8) (N:=some 25) (Bt 10 511) rfl rfl (one_of HT_.out (by kernel_rfl)) (by decide) (fun K hK => ?_)
    refine goes_ Tryz.func105 (by kernel_rfl) rfl #[.agg #[.int .i64 ((rd_T114 l0 x5_1).f0),.int .i64 ((rd_T114 l0 x5_1).f1),.int .i64 ((rd_T114 l0 x5_1).f2),.int .i64 ((rd_T114 l0 x5_1).f3),.int .i64 ((rd_T114 l0 x5_1).f4),.int .i64 ((rd_T114 l0 x5_1).f5),.int .i64 ((rd_T114 l0 x5_1).f6),.int .i64 ((rd_T114 l0 x5_1).f7),.int .i64 ((rd_T114 l0 x5_1).f8),.int .i64 ((rd_T114 l0 x5_1).f9),.int .i64 ((rd_T114 l0 x5_1).f10),.int .i64 ((rd_T114 l0 x5_1).f11.f0),.int .i64 ((rd_T114 l0 x5_1).f11.f1),.int .i64 ((rd_T114 l0 x5_1).f11.f2),.int .i64 ((rd_T114 l0 x5_1).f11.f3),.int .i64 ((rd_T114 l0 x5_1).f12),.int .i64 ((rd_T114 l0 x5_1).f13),.int .i64 ((rd_T114 l0 x5_1).f14),.int .i64 ((rd_T114 l0 x5_1).f15.f0),.int .i64 ((rd_T114 l0 x5_1).f15.f1)],.agg #[.int .i64 ((rd_T114 l1 x5_1).f0),.int .i64 ((rd_T114 l1 x5_1).f1),.int .i64 ((rd_T114 l1 x5_1).f2),.int .i64 ((rd_T114 l1 x5_1).f3),.int .i64 ((rd_T114 l1 x5_1).f4),.int .i64 ((rd_T114 l1 x5_1).f5),.int .i64 ((rd_T114 l1 x5_1).f6),.int .i64 ((rd_T114 l1 x5_1).f7),.int .i64 ((rd_T114 l1 x5_1).f8),.int .i64 ((rd_T114 l1 x5_1).f9),.int .i64 ((rd_T114 l1 x5_1).f10),.int .i64 ((rd_T114 l1 x5_1).f11.f0),.int .i64 ((rd_T114 l1 x5_1).f11.f1),.int .i64 ((rd_T114 l1 x5_1).f11.f2),.int .i64 ((rd_T114 l1 x5_1).f11.f3),.int .i64 ((rd_T114 l1 x5_1).f12),.int .i64 ((rd_T114 l1 x5_1).f13),.int .i64 ((rd_T114 l1 x5_1).f14),.int .i64 ((rd_T114 l1 x5_1).f15.f0),.int .i64 ((rd_T114 l1 x5_1).f15.f1)]] (by rfl) rfl rfl (by (try simp only [List.map_toArray,List.map_cons,List.map_nil]);first | done | rfl | (simp only [List.length_drop,List.length_take];rfl)) ?_
    with_reducible refine (laws_eqTalk.calls ((rd_T114 l0 x5_1).f0) ((rd_T114 l0 x5_1).f1) ((rd_T114 l0 x5_1).f2) ((rd_T114 l0 x5_1).f3) ((rd_T114 l0 x5_1).f4) ((rd_T114 l0 x5_1).f5) ((rd_T114 l0 x5_1).f6) ((rd_T114 l0 x5_1).f7) ((rd_T114 l0 x5_1).f8) ((rd_T114 l0 x5_1).f9) ((rd_T114 l0 x5_1).f10) ((rd_T114 l0 x5_1).f11.f0) ((rd_T114 l0 x5_1).f11.f1) ((rd_T114 l0 x5_1).f11.f2) ((rd_T114 l0 x5_1).f11.f3) ((rd_T114 l0 x5_1).f12) ((rd_T114 l0 x5_1).f13) ((rd_T114 l0 x5_1).f14) ((rd_T114 l0 x5_1).f15.f0) ((rd_T114 l0 x5_1).f15.f1) ((rd_T114 l1 x5_1).f0) ((rd_T114 l1 x5_1).f1) ((rd_T114 l1 x5_1).f2) ((rd_T114 l1 x5_1).f3) ((rd_T114 l1 x5_1).f4) ((rd_T114 l1 x5_1).f5) ((rd_T114 l1 x5_1).f6) ((rd_T114 l1 x5_1).f7) ((rd_T114 l1 x5_1).f8) ((rd_T114 l1 x5_1).f9) ((rd_T114 l1 x5_1).f10) ((rd_T114 l1 x5_1).f11.f0) ((rd_T114 l1 x5_1).f11.f1) ((rd_T114 l1 x5_1).f11.f2) ((rd_T114 l1 x5_1).f11.f3) ((rd_T114 l1 x5_1).f12) ((rd_T114 l1 x5_1).f13) ((rd_T114 l1 x5_1).f14) ((rd_T114 l1 x5_1).f15.f0) ((rd_T114 l1 x5_1).f15.f1) false _ A7.out).mono ?_
    rintro e w12 ⟨rfl,hb⟩
    refine ⟨_,rfl,?_⟩
    replace HB:=Z_ (lP_ Lb_ hb)
    (try clear hb)
    (try clear hb2)
    (try clear hk)
    (try clear hi)
    refine hK.out _ _ ⟨(RowAt.below (B:=0) hW463 HB.out),(RowAt.below (B:=0) hW464 HB.out)⟩ (fun hHeld => ?_)
    clear hK K
    refine norm_ (a':=?_) ?_ ?_
    rotate_left
    ·show Act.put _ (some 25) _ = _
     simp only [Act.put,lA_,lZ_,lS_,i64_w,i32_w]
     rfl
    refine pu_ 9 (some 26) (Bt 10 1023) (any_of HT_.out (by kernel_rfl)) ?_
    refine done_ (done_of HT_.out (by kernel_rfl)) ?_
    try go_wp2
    go_ret
    exact ⟨Er_,Lb_⟩
   rotate_right
   have H':=Z_ H
   clear H
   try go_wp2
   replace HB:=Z_ (lD_ HB.out)
   have p463 : 0 ≤ (x5_1 : Int):=dA_
   have q463 : x5_1 < (l0.length : Int):=dA_
   obtain ⟨ad463,e463,hL463⟩:=at_L114 a0.out x5_1 p463 q463
   have hW463:=hL463
   cases e463
   replace hL463:=RowAt.below (B:=0) hL463 HB.out
   replace p463:=eq_true p463
   replace q463:=eq_true q463
   have p464 : 0 ≤ (x5_1 : Int):=dA_
   have q464 : x5_1 < (l1.length : Int):=dA_
   obtain ⟨ad464,e464,hL464⟩:=at_L114 a1.out x5_1 p464 q464
   have hW464:=hL464
   cases e464
   replace hL464:=RowAt.below (B:=0) hL464 HB.out
   replace p464:=eq_true p464
   replace q464:=eq_true q464
   refine start_ (n:=10) (S:=fun w' => RowAt w' (ad463.add ((x5_1).toNat * 20)) [.int .i64 ((rd_T114 l0 x5_1).f0),.int .i64 ((rd_T114 l0 x5_1).f1),.int .i64 ((rd_T114 l0 x5_1).f2),.int .i64 ((rd_T114 l0 x5_1).f3),.int .i64 ((rd_T114 l0 x5_1).f4),.int .i64 ((rd_T114 l0 x5_1).f5),.int .i64 ((rd_T114 l0 x5_1).f6),.int .i64 ((rd_T114 l0 x5_1).f7),.int .i64 ((rd_T114 l0 x5_1).f8),.int .i64 ((rd_T114 l0 x5_1).f9),.int .i64 ((rd_T114 l0 x5_1).f10),.int .i64 ((rd_T114 l0 x5_1).f11.f0),.int .i64 ((rd_T114 l0 x5_1).f11.f1),.int .i64 ((rd_T114 l0 x5_1).f11.f2),.int .i64 ((rd_T114 l0 x5_1).f11.f3),.int .i64 ((rd_T114 l0 x5_1).f12),.int .i64 ((rd_T114 l0 x5_1).f13),.int .i64 ((rd_T114 l0 x5_1).f14),.int .i64 ((rd_T114 l0 x5_1).f15.f0),.int .i64 ((rd_T114 l0 x5_1).f15.f1)] ∧ RowAt w' (ad464.add ((x5_1).toNat * 20)) [.int .i64 ((rd_T114 l1 x5_1).f0),.int .i64 ((rd_T114 l1 x5_1).f1),.int .i64 ((rd_T114 l1 x5_1).f2),.int .i64 ((rd_T114 l1 x5_1).f3),.int .i64 ((rd_T114 l1 x5_1).f4),.int .i64 ((rd_T114 l1 x5_1).f5),.int .i64 ((rd_T114 l1 x5_1).f6),.int .i64 ((rd_T114 l1 x5_1).f7),.int .i64 ((rd_T114 l1 x5_1).f8),.int .i64 ((rd_T114 l1 x5_1).f9),.int .i64 ((rd_T114 l1 x5_1).f10),.int .i64 ((rd_T114 l1 x5_1).f11.f0),.int .i64 ((rd_T114 l1 x5_1).f11.f1),.int .i64 ((rd_T114 l1 x5_1).f11.f2),.int .i64 ((rd_T114 l1 x5_1).f11.f3),.int .i64 ((rd_T114 l1 x5_1).f12),.int .i64 ((rd_T114 l1 x5_1).f13),.int .i64 ((rd_T114 l1 x5_1).f14),.int .i64 ((rd_T114 l1 x5_1).f15.f0),.int .i64 ((rd_T114 l1 x5_1).f15.f1)]) (ds:=[]) (Bt 10 0) (by kernel_rfl) rfl rfl ⟨(RowAt.below (B:=0) hW463 HB.out),(RowAt.below (B:=0) hW464 HB.out)⟩ (fun hHeld => ?_);refine with_tabW laws_eqTalkS.tab6 laws_eqTalkS.bits6 (fun HT_ HW_ => ?_)
   generalize wr.drew = w9 at HB hL463 hL464 hHeld ⊢
   refine pu_ 0 (some 17) (Bt 10 1) (any_of HT_.out (by kernel_rfl)) ?_
   refine pu_ 1 (some 18) (Bt 10 3) (any_of HT_.out (by kernel_rfl)) ?_
   refine pu_ 2 (some 19) (Bt 10 7) (any_of HT_.out (by kernel_rfl)) ?_
   refine pu_ 4 (some 21) (Bt 10 23) (any_of HT_.out (by kernel_rfl)) ?_
   refine pu_ 5 (some 22) (Bt 10 55) (any_of HT_.out (by kernel_rfl)) ?_
   refine pu_ 6 (some 23) (Bt 10 119) (any_of HT_.out (by kernel_rfl)) ?_
   refine take_ (i:=3) (N:=some 20) (v:=?_) (a':=?_) (Bt 10 127) rfl rfl (take_ofW HT_.out HW_.out (by kernel_rfl)) (fun _ _ _ h => h) (Or.inl ⟨by rfl,?_⟩) hHeld ?_ ?_
   rotate_left
   ·rintro w' ⟨s0,s1⟩
    first | (refine (exec_loadRow (by rfl) (by rfl) s0 Tryz.underlying114 rfl size114_).trans ?_;with_reducible rfl) | (refine (exec_loadRow (by rfl) (by rfl) s0 Tryz.underlying142 rfl size142_).trans ?_;with_reducible rfl) | (refine (exec_loadRow (by rfl) (by rfl) s1 Tryz.underlying114 rfl size114_).trans ?_;with_reducible rfl) | (refine (exec_loadRow (by rfl) (by rfl) s1 Tryz.underlying142 rfl size142_).trans ?_;with_reducible rfl) | (go_simp;with_reducible rfl)
   rotate_left
   ·simp only [Act.put,lA_,lZ_,lS_,i64_w,i32_w]
    rfl
   refine take_ (i:=7) (N:=some 24) (v:=?_) (a':=?_) (Bt 10 255) rfl rfl (take_ofW HT_.out HW_.out (by kernel_rfl)) (fun _ _ _ h => h) (Or.inl ⟨by rfl,?_⟩) hHeld ?_ ?_
   rotate_left
   ·rintro w' ⟨s0,s1⟩
    first | (refine (exec_loadRow (by rfl) (by rfl) s0 Tryz.underlying114 rfl size114_).trans ?_;with_reducible rfl) | (refine (exec_loadRow (by rfl) (by rfl) s0 Tryz.underlying142 rfl size142_).trans ?_;with_reducible rfl) | (refine (exec_loadRow (by rfl) (by rfl) s1 Tryz.underlying114 rfl size114_).trans ?_;with_reducible rfl) | (refine (exec_loadRow (by rfl) (by rfl) s1 Tryz.underlying142 rfl size142_).trans ?_;with_reducible rfl) | (go_simp;with_reducible rfl)
   rotate_left
   ·simp only [Act.put,lA_,lZ_,lS_,i64_w,i32_w]
    rfl
   refine one_ (i:=8) (N:=some 25) (Bt 10 511) rfl rfl (one_of HT_.out (by kernel_rfl)) (by decide) (fun K hK => ?_)
   refine goes_ Tryz.func105 (by kernel_rfl) rfl #[.agg #[.int .i64 ((rd_T114 l0 x5_1).f0),.int .i64 ((rd_T114 l0 x5_1).f1),.int .i64 ((rd_T114 l0 x5_1).f2),.int .i64 ((rd_T114 l0 x5_1).f3),.int .i64 ((rd_T114 l0 x5_1).f4),.int .i64 ((rd_T114 l0 x5_1).f5),.int .i64 ((rd_T114 l0 x5_1).f6),.int .i64 ((rd_T114 l0 x5_1).f7),.int .i64 ((rd_T114 l0 x5_1).f8),.int .i64 ((rd_T114 l0 x5_1).f9),.int .i64 ((rd_T114 l0 x5_1).f10),.int .i64 ((rd_T114 l0 x5_1).f11.f0),.int .i64 ((rd_T114 l0 x5_1).f11.f1),.int .i64 ((rd_T114 l0 x5_1).f11.f2),.int .i64 ((rd_T114 l0 x5_1).f11.f3),.int .i64 ((rd_T114 l0 x5_1).f12),.int .i64 ((rd_T114 l0 x5_1).f13),.int .i64 ((rd_T114 l0 x5_1).f14),.int .i64 ((rd_T114 l0 x5_1).f15.f0),.int .i64 ((rd_T114 l0 x5_1).f15.f1)],.agg #[.int .i64 ((rd_T114 l1 x5_1).f0),.int .i64 ((rd_T114 l1 x5_1).f1),.int .i64 ((rd_T114 l1 x5_1).f2),.int .i64 ((rd_T114 l1 x5_1).f3),.int .i64 ((rd_T114 l1 x5_1).f4),.int .i64 ((rd_T114 l1 x5_1).f5),.int .i64 ((rd_T114 l1 x5_1).f6),.int .i64 ((rd_T114 l1 x5_1).f7),.int .i64 ((rd_T114 l1 x5_1).f8),.int .i64 ((rd_T114 l1 x5_1).f9),.int .i64 ((rd_T114 l1 x5_1).f10),.int .i64 ((rd_T114 l1 x5_1).f11.f0),.int .i64 ((rd_T114 l1 x5_1).f11.f1),.int .i64 ((rd_T114 l1 x5_1).f11.f2),.int .i64 ((rd_T114 l1 x5_1).f11.f3),.int .i64 ((rd_T114 l1 x5_1).f12),.int .i64 ((rd_T114 l1 x5_1).f13),.int .i64 ((rd_T114 l1 x5_1).f14),.int .i64 ((rd_T114 l1 x5_1).f15.f0),.int .i64 ((rd_T114 l1 x5_1).f15.f1)]] (by rfl) rfl rfl (by (try simp only [List.map_toArray,List.map_cons,List.map_nil]);first | done | rfl | (simp only [List.length_drop,List.length_take];rfl)) ?_
   with_reducible refine (laws_eqTalk.calls ((rd_T114 l0 x5_1).f0) ((rd_T114 l0 x5_1).f1) ((rd_T114 l0 x5_1).f2) ((rd_T114 l0 x5_1).f3) ((rd_T114 l0 x5_1).f4) ((rd_T114 l0 x5_1).f5) ((rd_T114 l0 x5_1).f6) ((rd_T114 l0 x5_1).f7) ((rd_T114 l0 x5_1).f8) ((rd_T114 l0 x5_1).f9) ((rd_T114 l0 x5_1).f10) ((rd_T114 l0 x5_1).f11.f0) ((rd_T114 l0 x5_1).f11.f1) ((rd_T114 l0 x5_1).f11.f2) ((rd_T114 l0 x5_1).f11.f3) ((rd_T114 l0 x5_1).f12) ((rd_T114 l0 x5_1).f13) ((rd_T114 l0 x5_1).f14) ((rd_T114 l0 x5_1).f15.f0) ((rd_T114 l0 x5_1).f15.f1) ((rd_T114 l1 x5_1).f0) ((rd_T114 l1 x5_1).f1) ((rd_T114 l1 x5_1).f2) ((rd_T114 l1 x5_1).f3) ((rd_T114 l1 x5_1).f4) ((rd_T114 l1 x5_1).f5) ((rd_T114 l1 x5_1).f6) ((rd_T114 l1 x5_1).f7) ((rd_T114 l1 x5_1).f8) ((rd_T114 l1 x5_1).f9) ((rd_T114 l1 x5_1).f10) ((rd_T114 l1 x5_1).f11.f0) ((rd_T114 l1 x5_1).f11.f1) ((rd_T114 l1 x5_1).f11.f2) ((rd_T114 l1 x5_1).f11.f3) ((rd_T114 l1 x5_1).f12) ((rd_T114 l1 x5_1).f13) ((rd_T114 l1 x5_1).f14) ((rd_T114 l1 x5_1).f15.f0) ((rd_T114 l1 x5_1).f15.f1) true _ A7.out).mono ?_
   rintro e w10 ⟨rfl,hb⟩
   refine ⟨_,rfl,?_⟩
   replace HB:=Z_ (lP_ Lb_ hb)
   (try clear hb)
   (try clear hb2)
   (try clear hk)
   (try clear hi)
   refine hK.out _ _ ⟨(RowAt.below (B:=0) hW463 HB.out),(RowAt.below (B:=0) hW464 HB.out)⟩ (fun hHeld => ?_)
   clear hK K
   refine norm_ (a':=?_) ?_ ?_
   rotate_left
   ·show Act.put _ (some 25) _ = _
    simp only [Act.put,lA_,lZ_,lS_,i64_w,i32_w]
    rfl
   refine pu_ 9 (some 26) (Bt 10 1023) (any_of HT_.out (by kernel_rfl)) ?_
   refine done_ (done_of HT_.out (by kernel_rfl)) ?_
   try go_wp2
   go_roundg k1
   case measure => have:=HK1.out;omega
   case rel => exact ⟨(wrap64 (x5_1 + 1)),Sr_,H',⟨by have:=HK1.out;omega⟩,⟨Lb_⟩⟩
def laws_eqGate.f (k : Nat) (a0_0 a0_1 : Int) (l0_2 : List (S114)) (a1_0 a1_1 : Int) (l1_2 : List (S114)) : Option (Bool):=if a0_0 = a1_0 then (if a0_1 = a1_1 then ((laws_eqTalkS.f k l0_2 l1_2).bind fun t468 => (if t468 = true then (some true) else (some false))) else (some false)) else (some false)
set_option maxHeartbeats 8000000 in
set_option maxRecDepth 100000 in
theorem laws_eqGate.calls (k : Nat) (a0_0 a0_1 : Int) (A0_2 : Option Addr) (c0_2 : Nat) (l0_2 : List (S114)) (a1_0 a1_1 : Int) (A1_2 : Option Addr) (c1_2 : Nat) (l1_2 : List (S114)) (r : Bool) (w : World) (hr0_2 : Kd.C k114 w A0_2 l0_2.length l0_2) (hc0_2 : l0_2.length ≤ c0_2) (hr1_2 : Kd.C k114 w A1_2 l1_2.length l1_2) (hc1_2 : l1_2.length ≤ c1_2) (h : laws_eqGate.f k a0_0 a0_1 l0_2 a1_0 a1_1 l1_2 = some r) :
  Calls Tryz.prog 65 #[.agg #[.int .i64 a0_0,.int .i64 a0_1,.slice A0_2 l0_2.length c0_2],.agg #[.int .i64 a1_0,.int .i64 a1_1,.slice A1_2 l1_2.length c1_2]] w fun e w' => e = .returned (.bool r) ∧ Below w.heap.size w w':=by
 have hu76:=Tryz.underlying76
 have HR0_2:=Z_ hr0_2
 have HC0_2:=Z_ hc0_2
 clear hr0_2 hc0_2
 have HR1_2:=Z_ hr1_2
 have HC1_2:=Z_ hc1_2
 clear hr1_2 hc1_2
 have HB:=Z_ (Below.refl w.heap.size w)
 unfold laws_eqGate.f at h
 have H:=h
 clear h
 replace H:=iE_ H
 obtain ⟨c3b0,c3b1,H⟩ | ⟨c3b0,c3b1,H⟩:=H
 replace H:=iE_ H
 obtain ⟨c4b0,c4b1,H⟩ | ⟨c4b0,c4b1,H⟩:=H
 replace H:=bS_ H
 obtain ⟨t468,A5,H⟩:=H
 replace H:=iB_ H
 obtain ⟨rfl,H⟩ | ⟨rfl,H⟩:=H
 all_goals
  obtain rfl:=Option.some.inj H
  go_enter Tryz.func65,Tryz.ntmps65
  go_wp2_with (first | ((with_reducible refine gD_ 2 rfl ?_);refine bx_ #[.int .i64 a0_0,.int .i64 a0_1,.slice A0_2 l0_2.length c0_2] 76 ?_;intro a3 hg w13 hbox hb;have a0:=Z_ hbox;have a5:=Z_ ((by rw [hg];exact (below_size Lb_) : w.heap.size ≤ a3));replace HB:=Z_ (lP_ Lb_ hb);clear hb hbox hg) | ((with_reducible refine gD_ 3 rfl ?_);refine bx_ #[.int .i64 a1_0,.int .i64 a1_1,.slice A1_2 l1_2.length c1_2] 76 ?_;intro a4 hg w14 hbox hb;have a7:=Z_ hbox;have a6:=Z_ ((by rw [hg];exact (below_size HB.out) : w.heap.size ≤ a4));replace HB:=Z_ (lP_ HB.out hb);have a1:=Z_ ((by rw [hg];exact Nat.ne_of_lt (blk_lt a0.out) : a3 ≠ a4));replace a0:=Z_ (bB_ a0.out hb);have a2:=Z_ a1.out.symm;clear hb hbox hg;have a9:=a1.out;have aa:=a2.out;obtain ⟨_,_,_,_,_,_⟩:=bc3 a0.out;obtain ⟨_,_,_,_,_,_⟩:=bc3 a7.out) | ((with_reducible refine gate_callee (f:=89) rfl ?_);refine goesA_ (some 19) rfl rfl Tryz.func89 (by kernel_rfl) rfl #[.slice A0_2 l0_2.length c0_2,.slice A1_2 l1_2.length c1_2] rfl ?_;(with_reducible refine (laws_eqTalkS.calls k _ _ l0_2 _ _ l1_2 _ _ ?side1 ?side2 ?side3 ?side4 A5.out).mono ?_);(case side1 => exact Cb_ HR0_2);(case side2 => exact HC0_2.out);(case side3 => exact Cb_ HR1_2);(case side4 => exact HC1_2.out);rintro e w12 ⟨rfl,hb⟩;refine ⟨_,rfl,?_⟩;replace HB:=Z_ (lP_ Lb_ hb);(try clear hb)))
  go_ret
  exact ⟨Er_,Lb_⟩
def laws_eqGateS.l0 : Nat → List (S76) → List (S76) → Int → Option (Bool)
 | 0,_,_,_ => none
 | k + 1,x0,x1,x5 => if x5 < (x0.length : Int) then (if 0 ≤ x5 then (if x5 < (x1.length : Int) then ((laws_eqGate.f k ((rd_T76 x0 x5).f0) ((rd_T76 x0 x5).f1) ((rd_T76 x0 x5).f2) ((rd_T76 x1 x5).f0) ((rd_T76 x1 x5).f1) ((rd_T76 x1 x5).f2)).bind fun t471 => (if t471 = true then (laws_eqGateS.l0 k x0 x1 (wrap64 (x5 + 1))) else (some false))) else (none)) else (none)) else (some true)
def laws_eqGateS.f (k : Nat) (l0 l1 : List (S76)) : Option (Bool):=if (l0.length : Int) = (l1.length : Int) then (laws_eqGateS.l0 k l0 l1 0) else (some false)
def laws_eqGateS.T6 : Bool × List (List Nat × List Nat):=(true,[([],[]),([],[]),([0,1],[0,1]),([2],[2]),([],[]),([],[]),([4,5],[4,5]),([6],[6]),([3,7],[3,7]),([8],[8])])
def laws_eqGateS.B6 : List Nat:=[0,0,3,7,0,0,48,112,255,511]
theorem laws_eqGateS.tab6 : rtab .any (opsOf Tryz.f31 6) = laws_eqGateS.T6:=by kernel_rfl
theorem laws_eqGateS.bits6 : waitsOk laws_eqGateS.T6.2 laws_eqGateS.B6 = true:=by kernel_rfl
set_option maxHeartbeats 8000000 in
set_option maxRecDepth 100000 in
theorem laws_eqGateS.calls (k : Nat) (A0 : Option Addr) (c0 : Nat) (l0 : List (S76)) (A1 : Option Addr) (c1 : Nat) (l1 : List (S76)) (r : Bool) (w : World) (hr0 : Kd.C k76 w A0 l0.length l0) (hc0 : l0.length ≤ c0) (hr1 : Kd.C k76 w A1 l1.length l1) (hc1 : l1.length ≤ c1) (h : laws_eqGateS.f k l0 l1 = some r) :
  Calls Tryz.prog 31 #[.slice A0 l0.length c0,.slice A1 l1.length c1] w fun e w' => e = .returned (.bool r) ∧ Below w.heap.size w w':=by
 have hu76:=Tryz.underlying76
 have a0:=Z_ hr0
 have a3:=Z_ hc0
 clear hr0 hc0
 have a1:=Z_ hr1
 have a4:=Z_ hc1
 clear hr1 hc1
 have HB:=Z_ (Below.refl w.heap.size w)
 unfold laws_eqGateS.f at h
 have H:=h
 clear h
 replace H:=iC_ H
 obtain ⟨c3,H⟩ | ⟨c3,H⟩:=H
 rotate_left
 ·have c3b0 : ((l0.length : Int) == (l1.length : Int)) = false:=beq_eq_false_iff_ne.mpr c3
  have c3b1 : ((l0.length : Int) != (l1.length : Int)) = true:=bne_iff_ne.mpr c3
  have c3b2 : (l0.length == l1.length) = false:=by first | simpa using c3 | (simp at c3 ⊢;omega)
  obtain rfl:=Option.some.inj H
  go_enter Tryz.func31,Tryz.ntmps31
  go_wp2
  go_ret
  exact ⟨Er_,Lb_⟩
 rotate_right
 have c3b0 : ((l0.length : Int) == (l1.length : Int)) = true:=beq_iff_eq.mpr c3
 have c3b1 : ((l0.length : Int) != (l1.length : Int)) = false:=bne_eq_false_iff_eq.mpr c3
 have c3b2 : (l0.length == l1.length) = true:=by first | simpa using c3 | (simp at c3 ⊢;omega)
 clear c3
 have H':=Z_ H
 clear H
 go_enter Tryz.func31,Tryz.ntmps31
 go_wp2
 go_loopg [5] k (fun kq v5 w' => ∃ (x5_1 : Int),v5 = .int .i64 x5_1 ∧ Aside0 (laws_eqGateS.l0 kq l0 l1 x5_1 = some r) ∧ Aside0 (kq ≤ k) ∧ Aside0 (Below w.heap.size w w'))
 case atStart => exact ⟨(0),Sr_,H',⟨Nat.le_refl _⟩,⟨Lb_⟩⟩
 case round =>
  clear H'
  try clear c1
  try clear p2
  try clear c3
  try clear c3b0
  try clear c3b1
  try clear c3b2
  obtain ⟨x5_1,rfl,HA,HK1,HB⟩:=hrel
  cases gk with
  | zero => exact absurd HA.out (by simp [laws_eqGateS.l0])
  | succ k1 =>
   have H:=HA.out
   clear HA
   simp only [laws_eqGateS.l0] at H
   replace H:=iD_ H
   obtain ⟨c4b0,H⟩ | ⟨c4b0,H⟩:=H
   rotate_left
   ·obtain rfl:=Option.some.inj H
    go_wp2
    go_ret
    exact ⟨Er_,Lb_⟩
   rotate_right
   replace H:=iM_ H
   obtain ⟨c5b0,H⟩:=H
   replace H:=iM_ H
   obtain ⟨c6b0,H⟩:=H
   replace H:=bS_ H
   obtain ⟨t471,A7,H⟩:=H
   replace H:=iB_ H
   obtain ⟨rfl,H⟩ | ⟨rfl,H⟩:=H
   rotate_left
   ·obtain rfl:=Option.some.inj H
    try go_wp2
    replace HB:=Z_ (lD_ HB.out)
    have p469 : 0 ≤ (x5_1 : Int):=dA_
    have q469 : x5_1 < (l0.length : Int):=dA_
    obtain ⟨ad469,A469_2,c469_2,e469,hx469_0,hx469_1,hx469_2,hl469_2,hi469_2⟩:=at_T76 a0.out x5_1 p469 q469
    have hw469_2:=hx469_2
    have hw469_1:=hx469_1
    have hw469_0:=hx469_0
    cases e469
    replace hx469_0:=cB_ HB hx469_0
    replace hx469_1:=cB_ HB hx469_1
    replace hx469_2:=cB_ HB hx469_2
    have HR469_2:=Z_ hi469_2
    have HC469_2:=Z_ hl469_2
    clear hi469_2 hl469_2
    replace p469:=eq_true p469
    replace q469:=eq_true q469
    have p470 : 0 ≤ (x5_1 : Int):=dA_
    have q470 : x5_1 < (l1.length : Int):=dA_
    obtain ⟨ad470,A470_2,c470_2,e470,hx470_0,hx470_1,hx470_2,hl470_2,hi470_2⟩:=at_T76 a1.out x5_1 p470 q470
    have hw470_2:=hx470_2
    have hw470_1:=hx470_1
    have hw470_0:=hx470_0
    cases e470
    replace hx470_0:=cB_ HB hx470_0
    replace hx470_1:=cB_ HB hx470_1
    replace hx470_2:=cB_ HB hx470_2
    have HR470_2:=Z_ hi470_2
    have HC470_2:=Z_ hl470_2
    clear hi470_2 hl470_2
    replace p470:=eq_true p470
    replace q470:=eq_true q470
    refine start_ (n:=10) (S:=fun w' => w'.cell? (ad469.add ((x5_1).toNat * 3)) = some (.int .i64 ((rd_T76 l0 x5_1).f0)) ∧ w'.cell? ⟨(ad469.add ((x5_1).toNat * 3)).block,(ad469.add ((x5_1).toNat * 3)).off + 1,none⟩ = some (.int .i64 ((rd_T76 l0 x5_1).f1)) ∧ w'.cell? ⟨(ad469.add ((x5_1).toNat * 3)).block,(ad469.add ((x5_1).toNat * 3)).off + 2,none⟩ = some (.slice A469_2 ((rd_T76 l0 x5_1).f2).length c469_2) ∧ w'.cell? (ad470.add ((x5_1).toNat * 3)) = some (.int .i64 ((rd_T76 l1 x5_1).f0)) ∧ w'.cell? ⟨(ad470.add ((x5_1).toNat * 3)).block,(ad470.add ((x5_1).toNat * 3)).off + 1,none⟩ = some (.int .i64 ((rd_T76 l1 x5_1).f1)) ∧ w'.cell? ⟨(ad470.add ((x5_1).toNat * 3)).block,(ad470.add ((x5_1).toNat * 3)).off + 2,none⟩ = some (.slice A470_2 ((rd_T76 l1 x5_1).f2).length c470_2)) (ds:=[]) (Bt 10 0) (by kernel_rfl) rfl rfl ⟨(cB_ HB hw469_0),(cB_ HB hw469_1),(cB_ HB hw469_2),(cB_ HB hw470_0),(cB_ HB hw470_1),(cB_ HB hw470_2)⟩ (fun hHeld => ?_);refine with_tabW laws_eqGateS.tab6 laws_eqGateS.bits6 (fun HT_ HW_ => ?_)
    generalize wr.drew = w11 at HB HR469_2 HR470_2 hx469_0 hx469_1 hx469_2 hx470_0 hx470_1 hx470_2 hHeld ⊢
    refine pu_ 0 (some 17) (Bt 10 1) (any_of HT_.out (by kernel_rfl)) ?_
    refine pu_ 1 (some 18) (Bt 10 3) (any_of HT_.out (by kernel_rfl)) ?_
    refine pu_ 2 (some 19) (Bt 10 7) (any_of HT_.out (by kernel_rfl)) ?_
    refine pu_ 4 (some 21) (Bt 10 23) (any_of HT_.out (by kernel_rfl)) ?_
    refine pu_ 5 (some 22) (Bt 10 55) (any_of HT_.out (by kernel_rfl)) ?_
    refine pu_ 6 (some 23) (Bt 10 119) (any_of HT_.out (by kernel_rfl)) ?_
    refine ta_ 3 (some 20) (Bt 10 127) (take_ofW HT_.out HW_.out (by kernel_rfl)) hHeld ?_
    refine ta_ 7 (some 24) (Bt 10 255) (take_ofW HT_.out HW_.out (by kernel_rfl)) hHeld ?_
    refine one_ (i:=8) (N:=some 25) (Bt 10 511) rfl rfl (one_of HT_.out (by kernel_rfl)) (by decide) (fun K hK => ?_)
    refine goes_ Tryz.func65 (by kernel_rfl) rfl #[.agg #[.int .i64 ((rd_T76 l0 x5_1).f0),.int .i64 ((rd_T76 l0 x5_1).f1),.slice A469_2 ((rd_T76 l0 x5_1).f2).length c469_2],.agg #[.int .i64 ((rd_T76 l1 x5_1).f0),.int .i64 ((rd_T76 l1 x5_1).f1),.slice A470_2 ((rd_T76 l1 x5_1).f2).length c470_2]] (by rfl) rfl rfl (by (try simp only [List.map_toArray,List.map_cons,List.map_nil]);first | done | rfl | (simp only [List.length_drop,List.length_take];rfl)) ?_
    with_reducible refine (laws_eqGate.calls k1 ((rd_T76 l0 x5_1).f0) ((rd_T76 l0 x5_1).f1) _ _ ((rd_T76 l0 x5_1).f2) ((rd_T76 l1 x5_1).f0) ((rd_T76 l1 x5_1).f1) _ _ ((rd_T76 l1 x5_1).f2) false _ ?side1 ?side2 ?side3 ?side4 A7.out).mono ?_
    (case side1 => exact Cb_ HR469_2)
    (case side2 => exact HC469_2.out)
    (case side3 => exact Cb_ HR470_2)
    (case side4 => exact HC470_2.out)
    rintro e w12 ⟨rfl,hb⟩
    refine ⟨_,rfl,?_⟩
    replace HB:=Z_ (lP_ Lb_ hb)
    (try clear hb)
    (try clear hb2)
    (try clear hk)
    (try clear hi)
    refine hK.out _ _ ⟨(cB_ HB hw469_0),(cB_ HB hw469_1),(cB_ HB hw469_2),(cB_ HB hw470_0),(cB_ HB hw470_1),(cB_ HB hw470_2)⟩ (fun hHeld => ?_)
    clear hK K
    refine norm_ (a':=?_) ?_ ?_
    rotate_left
    ·show Act.put _ (some 25) _ = _
     simp only [Act.put,lA_,lZ_,lS_,i64_w,i32_w]
     rfl
    refine pu_ 9 (some 26) (Bt 10 1023) (any_of HT_.out (by kernel_rfl)) ?_
    refine done_ (done_of HT_.out (by kernel_rfl)) ?_
    try go_wp2
    go_ret
    exact ⟨Er_,Lb_⟩
   rotate_right
   have H':=Z_ H
   clear H
   try go_wp2
   replace HB:=Z_ (lD_ HB.out)
   have p469 : 0 ≤ (x5_1 : Int):=dA_
   have q469 : x5_1 < (l0.length : Int):=dA_
   obtain ⟨ad469,A469_2,c469_2,e469,hx469_0,hx469_1,hx469_2,hl469_2,hi469_2⟩:=at_T76 a0.out x5_1 p469 q469
   have hw469_2:=hx469_2
   have hw469_1:=hx469_1
   have hw469_0:=hx469_0
   cases e469
   replace hx469_0:=cB_ HB hx469_0
   replace hx469_1:=cB_ HB hx469_1
   replace hx469_2:=cB_ HB hx469_2
   have HR469_2:=Z_ hi469_2
   have HC469_2:=Z_ hl469_2
   clear hi469_2 hl469_2
   replace p469:=eq_true p469
   replace q469:=eq_true q469
   have p470 : 0 ≤ (x5_1 : Int):=dA_
   have q470 : x5_1 < (l1.length : Int):=dA_
   obtain ⟨ad470,A470_2,c470_2,e470,hx470_0,hx470_1,hx470_2,hl470_2,hi470_2⟩:=at_T76 a1.out x5_1 p470 q470
   have hw470_2:=hx470_2
   have hw470_1:=hx470_1
   have hw470_0:=hx470_0
   cases e470
   replace hx470_0:=cB_ HB hx470_0
   replace hx470_1:=cB_ HB hx470_1
   replace hx470_2:=cB_ HB hx470_2
   have HR470_2:=Z_ hi470_2
   have HC470_2:=Z_ hl470_2
   clear hi470_2 hl470_2
   replace p470:=eq_true p470
   replace q470:=eq_true q470
   refine start_ (n:=10) (S:=fun w' => w'.cell? (ad469.add ((x5_1).toNat * 3)) = some (.int .i64 ((rd_T76 l0 x5_1).f0)) ∧ w'.cell? ⟨(ad469.add ((x5_1).toNat * 3)).block,(ad469.add ((x5_1).toNat * 3)).off + 1,none⟩ = some (.int .i64 ((rd_T76 l0 x5_1).f1)) ∧ w'.cell? ⟨(ad469.add ((x5_1).toNat * 3)).block,(ad469.add ((x5_1).toNat * 3)).off + 2,none⟩ = some (.slice A469_2 ((rd_T76 l0 x5_1).f2).length c469_2) ∧ w'.cell? (ad470.add ((x5_1).toNat * 3)) = some (.int .i64 ((rd_T76 l1 x5_1).f0)) ∧ w'.cell? ⟨(ad470.add ((x5_1).toNat * 3)).block,(ad470.add ((x5_1).toNat * 3)).off + 1,none⟩ = some (.int .i64 ((rd_T76 l1 x5_1).f1)) ∧ w'.cell? ⟨(ad470.add ((x5_1).toNat * 3)).block,(ad470.add ((x5_1).toNat * 3)).off + 2,none⟩ = some (.slice A470_2 ((rd_T76 l1 x5_1).f2).length c470_2)) (ds:=[]) (Bt 10 0) (by kernel_rfl) rfl rfl ⟨(cB_ HB hw469_0),(cB_ HB hw469_1),(cB_ HB hw469_2),(cB_ HB hw470_0),(cB_ HB hw470_1),(cB_ HB hw470_2)⟩ (fun hHeld => ?_);refine with_tabW laws_eqGateS.tab6 laws_eqGateS.bits6 (fun HT_ HW_ => ?_)
   generalize wr.drew = w9 at HB HR469_2 HR470_2 hx469_0 hx469_1 hx469_2 hx470_0 hx470_1 hx470_2 hHeld ⊢
   refine pu_ 0 (some 17) (Bt 10 1) (any_of HT_.out (by kernel_rfl)) ?_
   refine pu_ 1 (some 18) (Bt 10 3) (any_of HT_.out (by kernel_rfl)) ?_
   refine pu_ 2 (some 19) (Bt 10 7) (any_of HT_.out (by kernel_rfl)) ?_
   refine pu_ 4 (some 21) (Bt 10 23) (any_of HT_.out (by kernel_rfl)) ?_
   refine pu_ 5 (some 22) (Bt 10 55) (any_of HT_.out (by kernel_rfl)) ?_
   refine pu_ 6 (some 23) (Bt 10 119) (any_of HT_.out (by kernel_rfl)) ?_
   refine ta_ 3 (some 20) (Bt 10 127) (take_ofW HT_.out HW_.out (by kernel_rfl)) hHeld ?_
   refine ta_ 7 (some 24) (Bt 10 255) (take_ofW HT_.out HW_.out (by kernel_rfl)) hHeld ?_
   refine one_ (i:=8) (N:=some 25) (Bt 10 511) rfl rfl (one_of HT_.out (by kernel_rfl)) (by decide) (fun K hK => ?_)
   refine goes_ Tryz.func65 (by kernel_rfl) rfl #[.agg #[.int .i64 ((rd_T76 l0 x5_1).f0),.int .i64 ((rd_T76 l0 x5_1).f1),.slice A469_2 ((rd_T76 l0 x5_1).f2).length c469_2],.agg #[.int .i64 ((rd_T76 l1 x5_1).f0),.int .i64 ((rd_T76 l1 x5_1).f1),.slice A470_2 ((rd_T76 l1 x5_1).f2).length c470_2]] (by rfl) rfl rfl (by (try simp only [List.map_toArray,List.map_cons,List.map_nil]);first | done | rfl | (simp only [List.length_drop,List.length_take];rfl)) ?_
   with_reducible refine (laws_eqGate.calls k1 ((rd_T76 l0 x5_1).f0) ((rd_T76 l0 x5_1).f1) _ _ ((rd_T76 l0 x5_1).f2) ((rd_T76 l1 x5_1).f0) ((rd_T76 l1 x5_1).f1) _ _ ((rd_T76 l1 x5_1).f2) true _ ?side1 ?side2 ?side3 ?side4 A7.out).mono ?_
   (case side1 => exact Cb_ HR469_2)
   (case side2 => exact HC469_2.out)
   (case side3 => exact Cb_ HR470_2)
   (case side4 => exact HC470_2.out)
   rintro e w10 ⟨rfl,hb⟩
   refine ⟨_,rfl,?_⟩
   replace HB:=Z_ (lP_ Lb_ hb)
   (try clear hb)
   (try clear hb2)
   (try clear hk)
   (try clear hi)
   refine hK.out _ _ ⟨(cB_ HB hw469_0),(cB_ HB hw469_1),(cB_ HB hw469_2),(cB_ HB hw470_0),(cB_ HB hw470_1),(cB_ HB hw470_2)⟩ (fun hHeld => ?_)
   clear hK K
   refine norm_ (a':=?_) ?_ ?_
   rotate_left
   ·show Act.put _ (some 25) _ = _
    simp only [Act.put,lA_,lZ_,lS_,i64_w,i32_w]
    rfl
   refine pu_ 9 (some 26) (Bt 10 1023) (any_of HT_.out (by kernel_rfl)) ?_
   refine done_ (done_of HT_.out (by kernel_rfl)) ?_
   try go_wp2
   go_roundg k1
   case measure => have:=HK1.out;omega
   case rel => exact ⟨(wrap64 (x5_1 + 1)),Sr_,H',⟨by have:=HK1.out;omega⟩,⟨Lb_⟩⟩
def laws_eqInt64S.l0 : Nat → List Int → List Int → Int → Option (Bool)
 | 0,_,_,_ => none
 | k + 1,x0,x1,x5 => if x5 < (x0.length : Int) then (if 0 ≤ x5 then (if x5 < (x1.length : Int) then (if (rd x0 x5) = (rd x1 x5) then (laws_eqInt64S.l0 k x0 x1 (wrap64 (x5 + 1))) else (some false)) else (none)) else (none)) else (some true)
def laws_eqInt64S.f (k : Nat) (l0 l1 : List Int) : Option (Bool):=if (l0.length : Int) = (l1.length : Int) then (laws_eqInt64S.l0 k l0 l1 0) else (some false)
set_option maxHeartbeats 8000000 in
set_option maxRecDepth 100000 in
theorem laws_eqInt64S.calls (k : Nat) (A0 : Option Addr) (c0 : Nat) (l0 : List Int) (A1 : Option Addr) (c1 : Nat) (l1 : List Int) (r : Bool) (w : World) (hr0 : Kd.C (Kd.int .i64) w A0 l0.length l0) (hc0 : l0.length ≤ c0) (hr1 : Kd.C (Kd.int .i64) w A1 l1.length l1) (hc1 : l1.length ≤ c1) (h : laws_eqInt64S.f k l0 l1 = some r) :
  Calls Tryz.prog 32 #[.slice A0 l0.length c0,.slice A1 l1.length c1] w fun e w' => e = .returned (.bool r) ∧ Drawn0 w w':=by
 have a0:=Z_ hr0
 have a2:=Z_ hc0
 clear hr0 hc0
 have a1:=Z_ hr1
 have a3:=Z_ hc1
 clear hr1 hc1
 unfold laws_eqInt64S.f at h
 have H:=h
 clear h
 replace H:=iC_ H
 obtain ⟨c3,H⟩ | ⟨c3,H⟩:=H
 rotate_left
 ·have c3b0 : ((l0.length : Int) == (l1.length : Int)) = false:=beq_eq_false_iff_ne.mpr c3
  have c3b1 : ((l0.length : Int) != (l1.length : Int)) = true:=bne_iff_ne.mpr c3
  have c3b2 : (l0.length == l1.length) = false:=by first | simpa using c3 | (simp at c3 ⊢;omega)
  obtain rfl:=Option.some.inj H
  go_enter Tryz.func32,Tryz.ntmps32
  go_wp2
  repeat (go_quiet (fail);try go_wp2)
  go_ret
  exact ⟨by first | rfl | (simp;done) | (simp [*];done),by repeat (first | exact Drawn0.refl _ | apply Drawn0.step)⟩
 rotate_right
 have c3b0 : ((l0.length : Int) == (l1.length : Int)) = true:=beq_iff_eq.mpr c3
 have c3b1 : ((l0.length : Int) != (l1.length : Int)) = false:=bne_eq_false_iff_eq.mpr c3
 have c3b2 : (l0.length == l1.length) = true:=by first | simpa using c3 | (simp at c3 ⊢;omega)
 clear c3
 have H':=Z_ H
 clear H
 go_enter Tryz.func32,Tryz.ntmps32
 go_wp2
 repeat (go_quiet (fail);try go_wp2)
 go_loopg [5] k (fun kq v5 w' => ∃ (x5_1 : Int),v5 = .int .i64 x5_1 ∧ Aside0 (laws_eqInt64S.l0 kq l0 l1 x5_1 = some r) ∧ Aside0 (kq ≤ k) ∧ Drawn0 w w')
 case atStart => exact ⟨(0),Sr_,H',⟨Nat.le_refl _⟩,by repeat (first | exact Drawn0.refl _ | apply Drawn0.step)⟩
 case round =>
  clear H'
  try clear c1
  try clear p2
  try clear c3
  try clear c3b0
  try clear c3b1
  try clear c3b2
  obtain ⟨x5_1,rfl,HA,HK1,⟨m1,rfl⟩⟩:=hrel
  cases gk with
  | zero => exact absurd HA.out (by simp [laws_eqInt64S.l0])
  | succ k1 =>
   have H:=HA.out
   clear HA
   simp only [laws_eqInt64S.l0] at H
   replace H:=iD_ H
   obtain ⟨c4b0,H⟩ | ⟨c4b0,H⟩:=H
   rotate_left
   ·obtain rfl:=Option.some.inj H
    go_wp2
    repeat (go_quiet (fail);try go_wp2)
    go_ret
    exact ⟨by first | rfl | (simp;done) | (simp [*];done),by repeat (first | exact Drawn0.refl _ | apply Drawn0.step)⟩
   rotate_right
   replace H:=iM_ H
   obtain ⟨c5b0,H⟩:=H
   replace H:=iM_ H
   obtain ⟨c6b0,H⟩:=H
   replace H:=iE_ H
   obtain ⟨c7b0,c7b1,H⟩ | ⟨c7b0,c7b1,H⟩:=H
   rotate_left
   ·obtain rfl:=Option.some.inj H
    have p472 : 0 ≤ (x5_1 : Int):=dA_
    have q472 : x5_1 < (l0.length : Int):=dA_
    obtain ⟨ad472,e472,hx472_0⟩:=Kd.at_int a0.out x5_1 p472 q472
    cases e472
    replace p472:=eq_true p472
    replace q472:=eq_true q472
    have p473 : 0 ≤ (x5_1 : Int):=dA_
    have q473 : x5_1 < (l1.length : Int):=dA_
    obtain ⟨ad473,e473,hx473_0⟩:=Kd.at_int a1.out x5_1 p473 q473
    cases e473
    replace p473:=eq_true p473
    replace q473:=eq_true q473
    go_wp2
    repeat (go_quiet (fail);try go_wp2)
    go_ret
    exact ⟨by first | rfl | (simp;done) | (simp [*];done),by repeat (first | exact Drawn0.refl _ | apply Drawn0.step)⟩
   rotate_right
   have H':=Z_ H
   clear H
   have p472 : 0 ≤ (x5_1 : Int):=dA_
   have q472 : x5_1 < (l0.length : Int):=dA_
   obtain ⟨ad472,e472,hx472_0⟩:=Kd.at_int a0.out x5_1 p472 q472
   cases e472
   replace p472:=eq_true p472
   replace q472:=eq_true q472
   have p473 : 0 ≤ (x5_1 : Int):=dA_
   have q473 : x5_1 < (l1.length : Int):=dA_
   obtain ⟨ad473,e473,hx473_0⟩:=Kd.at_int a1.out x5_1 p473 q473
   cases e473
   replace p473:=eq_true p473
   replace q473:=eq_true q473
   go_wp2
   repeat (go_quiet (fail);try go_wp2)
   go_roundg k1
   case measure => have:=HK1.out;omega
   case rel => exact ⟨(wrap64 (x5_1 + 1)),Sr_,H',⟨by have:=HK1.out;omega⟩,by repeat (first | exact Drawn0.refl _ | apply Drawn0.step)⟩
def laws_eqGiven.f (a0_0 a0_1 a0_2 a0_3 a1_0 a1_1 a1_2 a1_3 : Int) : Option (Bool):=if a0_0 = a1_0 then (if a0_1 = a1_1 then (if a0_2 = a1_2 then (if a0_3 = a1_3 then (some true) else (some false)) else (some false)) else (some false)) else (some false)
set_option maxHeartbeats 8000000 in
set_option maxRecDepth 100000 in
theorem laws_eqGiven.calls (a0_0 a0_1 a0_2 a0_3 a1_0 a1_1 a1_2 a1_3 : Int) (r : Bool) (w : World) (h : laws_eqGiven.f a0_0 a0_1 a0_2 a0_3 a1_0 a1_1 a1_2 a1_3 = some r) :
  Calls Tryz.prog 66 #[.agg #[.int .i64 a0_0,.int .i64 a0_1,.int .i64 a0_2,.int .i64 a0_3],.agg #[.int .i64 a1_0,.int .i64 a1_1,.int .i64 a1_2,.int .i64 a1_3]] w fun e w' => e = .returned (.bool r) ∧ Below w.heap.size w w':=by
 have hu88:=Tryz.underlying88
 have HB:=Z_ (Below.refl w.heap.size w)
 unfold laws_eqGiven.f at h
 have H:=h
 clear h
 replace H:=iE_ H
 obtain ⟨c3b0,c3b1,H⟩ | ⟨c3b0,c3b1,H⟩:=H
 replace H:=iE_ H
 obtain ⟨c4b0,c4b1,H⟩ | ⟨c4b0,c4b1,H⟩:=H
 replace H:=iE_ H
 obtain ⟨c5b0,c5b1,H⟩ | ⟨c5b0,c5b1,H⟩:=H
 replace H:=iE_ H
 obtain ⟨c6b0,c6b1,H⟩ | ⟨c6b0,c6b1,H⟩:=H
 all_goals
  obtain rfl:=Option.some.inj H
  go_enter Tryz.func66,Tryz.ntmps66
  go_wp2_with (first | ((with_reducible refine gD_ 2 rfl ?_);refine bx_ #[.int .i64 a0_0,.int .i64 a0_1,.int .i64 a0_2,.int .i64 a0_3] 88 ?_;intro a3 hg w12 hbox hb;have a0:=Z_ hbox;have a5:=Z_ ((by rw [hg];exact (below_size Lb_) : w.heap.size ≤ a3));replace HB:=Z_ (lP_ Lb_ hb);clear hb hbox hg) | ((with_reducible refine gD_ 3 rfl ?_);refine bx_ #[.int .i64 a1_0,.int .i64 a1_1,.int .i64 a1_2,.int .i64 a1_3] 88 ?_;intro a4 hg w13 hbox hb;have a6:=Z_ hbox;have a7:=Z_ ((by rw [hg];exact (below_size HB.out) : w.heap.size ≤ a4));replace HB:=Z_ (lP_ HB.out hb);have a1:=Z_ ((by rw [hg];exact Nat.ne_of_lt (blk_lt a0.out) : a3 ≠ a4));replace a0:=Z_ (bB_ a0.out hb);have a2:=Z_ a1.out.symm;clear hb hbox hg;have a8:=a1.out;have a9:=a2.out;obtain ⟨_,_,_,_,_,_,_,_⟩:=bc4 a0.out;obtain ⟨_,_,_,_,_,_,_,_⟩:=bc4 a6.out))
  go_ret
  exact ⟨Er_,Lb_⟩
def laws_eqGivenS.l0 : Nat → List (S88) → List (S88) → Int → Option (Bool)
 | 0,_,_,_ => none
 | k + 1,x0,x1,x5 => if x5 < (x0.length : Int) then (if 0 ≤ x5 then (if x5 < (x1.length : Int) then ((laws_eqGiven.f ((rd_T88 x0 x5).f0) ((rd_T88 x0 x5).f1) ((rd_T88 x0 x5).f2) ((rd_T88 x0 x5).f3) ((rd_T88 x1 x5).f0) ((rd_T88 x1 x5).f1) ((rd_T88 x1 x5).f2) ((rd_T88 x1 x5).f3)).bind fun t478 => (if t478 = true then (laws_eqGivenS.l0 k x0 x1 (wrap64 (x5 + 1))) else (some false))) else (none)) else (none)) else (some true)
def laws_eqGivenS.f (k : Nat) (l0 l1 : List (S88)) : Option (Bool):=if (l0.length : Int) = (l1.length : Int) then (laws_eqGivenS.l0 k l0 l1 0) else (some false)
def laws_eqGivenS.T6 : Bool × List (List Nat × List Nat):=(true,[([],[]),([],[]),([0,1],[0,1]),([2],[2]),([],[]),([],[]),([4,5],[4,5]),([6],[6]),([3,7],[3,7]),([8],[8])])
def laws_eqGivenS.B6 : List Nat:=[0,0,3,7,0,0,48,112,255,511]
theorem laws_eqGivenS.tab6 : rtab .any (opsOf Tryz.f33 6) = laws_eqGivenS.T6:=by kernel_rfl
theorem laws_eqGivenS.bits6 : waitsOk laws_eqGivenS.T6.2 laws_eqGivenS.B6 = true:=by kernel_rfl
set_option maxHeartbeats 8000000 in
set_option maxRecDepth 100000 in
theorem laws_eqGivenS.calls (k : Nat) (A0 : Option Addr) (c0 : Nat) (l0 : List (S88)) (A1 : Option Addr) (c1 : Nat) (l1 : List (S88)) (r : Bool) (w : World) (hr0 : Kd.C k88 w A0 l0.length l0) (hc0 : l0.length ≤ c0) (hr1 : Kd.C k88 w A1 l1.length l1) (hc1 : l1.length ≤ c1) (h : laws_eqGivenS.f k l0 l1 = some r) :
  Calls Tryz.prog 33 #[.slice A0 l0.length c0,.slice A1 l1.length c1] w fun e w' => e = .returned (.bool r) ∧ Below w.heap.size w w':=by
 have hu88:=Tryz.underlying88
 have a0:=Z_ hr0
 have a3:=Z_ hc0
 clear hr0 hc0
 have a1:=Z_ hr1
 have a4:=Z_ hc1
 clear hr1 hc1
 have HB:=Z_ (Below.refl w.heap.size w)
 unfold laws_eqGivenS.f at h
 have H:=h
 clear h
 replace H:=iC_ H
 obtain ⟨c3,H⟩ | ⟨c3,H⟩:=H
 rotate_left
 ·have c3b0 : ((l0.length : Int) == (l1.length : Int)) = false:=beq_eq_false_iff_ne.mpr c3
  have c3b1 : ((l0.length : Int) != (l1.length : Int)) = true:=bne_iff_ne.mpr c3
  have c3b2 : (l0.length == l1.length) = false:=by first | simpa using c3 | (simp at c3 ⊢;omega)
  obtain rfl:=Option.some.inj H
  go_enter Tryz.func33,Tryz.ntmps33
  go_wp2
  go_ret
  exact ⟨Er_,Lb_⟩
 rotate_right
 have c3b0 : ((l0.length : Int) == (l1.length : Int)) = true:=beq_iff_eq.mpr c3
 have c3b1 : ((l0.length : Int) != (l1.length : Int)) = false:=bne_eq_false_iff_eq.mpr c3
 have c3b2 : (l0.length == l1.length) = true:=by first | simpa using c3 | (simp at c3 ⊢;omega)
 clear c3
 have H':=Z_ H
 clear H
 go_enter Tryz.func33,Tryz.ntmps33
 go_wp2
 go_loopg [5] k (fun kq v5 w' => ∃ (x5_1 : Int),v5 = .int .i64 x5_1 ∧ Aside0 (laws_eqGivenS.l0 kq l0 l1 x5_1 = some r) ∧ Aside0 (kq ≤ k) ∧ Aside0 (Below w.heap.size w w'))
 case atStart => exact ⟨(0),Sr_,H',⟨Nat.le_refl _⟩,⟨Lb_⟩⟩
 case round =>
  clear H'
  try clear c1
  try clear p2
  try clear c3
  try clear c3b0
  try clear c3b1
  try clear c3b2
  obtain ⟨x5_1,rfl,HA,HK1,HB⟩:=hrel
  cases gk with
  | zero => exact absurd HA.out (by simp [laws_eqGivenS.l0])
  | succ k1 =>
   have H:=HA.out
   clear HA
   simp only [laws_eqGivenS.l0] at H
   replace H:=iD_ H
   obtain ⟨c4b0,H⟩ | ⟨c4b0,H⟩:=H
   rotate_left
   ·obtain rfl:=Option.some.inj H
    go_wp2
    go_ret
    exact ⟨Er_,Lb_⟩
   rotate_right
   replace H:=iM_ H
   obtain ⟨c5b0,H⟩:=H
   replace H:=iM_ H
   obtain ⟨c6b0,H⟩:=H
   replace H:=bS_ H
   obtain ⟨t478,A7,H⟩:=H
   replace H:=iB_ H
   obtain ⟨rfl,H⟩ | ⟨rfl,H⟩:=H
   rotate_left
   ·obtain rfl:=Option.some.inj H
    try go_wp2
    replace HB:=Z_ (lD_ HB.out)
    have p476 : 0 ≤ (x5_1 : Int):=dA_
    have q476 : x5_1 < (l0.length : Int):=dA_
    obtain ⟨ad476,e476,hx476_0,hx476_1,hx476_2,hx476_3⟩:=at_T88 a0.out x5_1 p476 q476
    have hw476_3:=hx476_3
    have hw476_2:=hx476_2
    have hw476_1:=hx476_1
    have hw476_0:=hx476_0
    cases e476
    replace hx476_0:=cB_ HB hx476_0
    replace hx476_1:=cB_ HB hx476_1
    replace hx476_2:=cB_ HB hx476_2
    replace hx476_3:=cB_ HB hx476_3
    replace p476:=eq_true p476
    replace q476:=eq_true q476
    have p477 : 0 ≤ (x5_1 : Int):=dA_
    have q477 : x5_1 < (l1.length : Int):=dA_
    obtain ⟨ad477,e477,hx477_0,hx477_1,hx477_2,hx477_3⟩:=at_T88 a1.out x5_1 p477 q477
    have hw477_3:=hx477_3
    have hw477_2:=hx477_2
    have hw477_1:=hx477_1
    have hw477_0:=hx477_0
    cases e477
    replace hx477_0:=cB_ HB hx477_0
    replace hx477_1:=cB_ HB hx477_1
    replace hx477_2:=cB_ HB hx477_2
    replace hx477_3:=cB_ HB hx477_3
    replace p477:=eq_true p477
    replace q477:=eq_true q477
    refine start_ (n:=10) (S:=fun w' => w'.cell? (ad476.add ((x5_1).toNat * 4)) = some (.int .i64 ((rd_T88 l0 x5_1).f0)) ∧ w'.cell? ⟨(ad476.add ((x5_1).toNat * 4)).block,(ad476.add ((x5_1).toNat * 4)).off + 1,none⟩ = some (.int .i64 ((rd_T88 l0 x5_1).f1)) ∧ w'.cell? ⟨(ad476.add ((x5_1).toNat * 4)).block,(ad476.add ((x5_1).toNat * 4)).off + 2,none⟩ = some (.int .i64 ((rd_T88 l0 x5_1).f2)) ∧ w'.cell? ⟨(ad476.add ((x5_1).toNat * 4)).block,(ad476.add ((x5_1).toNat * 4)).off + 3,none⟩ = some (.int .i64 ((rd_T88 l0 x5_1).f3)) ∧ w'.cell? (ad477.add ((x5_1).toNat * 4)) = some (.int .i64 ((rd_T88 l1 x5_1).f0)) ∧ w'.cell? ⟨(ad477.add ((x5_1).toNat * 4)).block,(ad477.add ((x5_1).toNat * 4)).off + 1,none⟩ = some (.int .i64 ((rd_T88 l1 x5_1).f1)) ∧ w'.cell? ⟨(ad477.add ((x5_1).toNat * 4)).block,(ad477.add ((x5_1).toNat * 4)).off + 2,none⟩ = some (.int .i64 ((rd_T88 l1 x5_1).f2)) ∧ w'.cell? ⟨(ad477.add ((x5_1).toNat * 4)).block,(ad477.add ((x5_1).toNat * 4)).off + 3,none⟩ = some (.int .i64 ((rd_T88 l1 x5_1).f3))) (ds:=[]) (Bt 10 0) (by kernel_rfl) rfl rfl ⟨(cB_ HB hw476_0),(cB_ HB hw476_1),(cB_ HB hw476_2),(cB_ HB hw476_3),(cB_ HB hw477_0),(cB_ HB hw477_1),(cB_ HB hw477_2),(cB_ HB hw477_3)⟩ (fun hHeld => ?_);refine with_tabW laws_eqGivenS.tab6 laws_eqGivenS.bits6 (fun HT_ HW_ => ?_)
    generalize wr.drew = w11 at HB hx476_0 hx476_1 hx476_2 hx476_3 hx477_0 hx477_1 hx477_2 hx477_3 hHeld ⊢
    refine pu_ 0 (some 17) (Bt 10 1) (any_of HT_.out (by kernel_rfl)) ?_
    refine pu_ 1 (some 18) (Bt 10 3) (any_of HT_.out (by kernel_rfl)) ?_
    refine pu_ 2 (some 19) (Bt 10 7) (any_of HT_.out (by kernel_rfl)) ?_
    refine pu_ 4 (some 21) (Bt 10 23) (any_of HT_.out (by kernel_rfl)) ?_
    refine pu_ 5 (some 22) (Bt 10 55) (any_of HT_.out (by kernel_rfl)) ?_
    refine pu_ 6 (some 23) (Bt 10 119) (any_of HT_.out (by kernel_rfl)) ?_
    refine ta_ 3 (some 20) (Bt 10 127) (take_ofW HT_.out HW_.out (by kernel_rfl)) hHeld ?_
    refine ta_ 7 (some 24) (Bt 10 255) (take_ofW HT_.out HW_.out (by kernel_rfl)) hHeld ?_
    refine one_ (i:=8) (N:=some 25) (Bt 10 511) rfl rfl (one_of HT_.out (by kernel_rfl)) (by decide) (fun K hK => ?_)
    refine goes_ Tryz.func66 (by kernel_rfl) rfl #[.agg #[.int .i64 ((rd_T88 l0 x5_1).f0),.int .i64 ((rd_T88 l0 x5_1).f1),.int .i64 ((rd_T88 l0 x5_1).f2),.int .i64 ((rd_T88 l0 x5_1).f3)],.agg #[.int .i64 ((rd_T88 l1 x5_1).f0),.int .i64 ((rd_T88 l1 x5_1).f1),.int .i64 ((rd_T88 l1 x5_1).f2),.int .i64 ((rd_T88 l1 x5_1).f3)]] (by rfl) rfl rfl (by (try simp only [List.map_toArray,List.map_cons,List.map_nil]);first | done | rfl | (simp only [List.length_drop,List.length_take];rfl)) ?_
    with_reducible refine (laws_eqGiven.calls ((rd_T88 l0 x5_1).f0) ((rd_T88 l0 x5_1).f1) ((rd_T88 l0 x5_1).f2) ((rd_T88 l0 x5_1).f3) ((rd_T88 l1 x5_1).f0) ((rd_T88 l1 x5_1).f1) ((rd_T88 l1 x5_1).f2) ((rd_T88 l1 x5_1).f3) false _ A7.out).mono ?_
    rintro e w12 ⟨rfl,hb⟩
    refine ⟨_,rfl,?_⟩
    replace HB:=Z_ (lP_ Lb_ hb)
    (try clear hb)
    (try clear hb2)
    (try clear hk)
    (try clear hi)
    refine hK.out _ _ ⟨(cB_ HB hw476_0),(cB_ HB hw476_1),(cB_ HB hw476_2),(cB_ HB hw476_3),(cB_ HB hw477_0),(cB_ HB hw477_1),(cB_ HB hw477_2),(cB_ HB hw477_3)⟩ (fun hHeld => ?_)
    clear hK K
    refine norm_ (a':=?_) ?_ ?_
    rotate_left
    ·show Act.put _ (some 25) _ = _
     simp only [Act.put,lA_,lZ_,lS_,i64_w,i32_w]
     rfl
    refine pu_ 9 (some 26) (Bt 10 1023) (any_of HT_.out (by kernel_rfl)) ?_
    refine done_ (done_of HT_.out (by kernel_rfl)) ?_
    try go_wp2
    go_ret
    exact ⟨Er_,Lb_⟩
   rotate_right
   have H':=Z_ H
   clear H
   try go_wp2
   replace HB:=Z_ (lD_ HB.out)
   have p476 : 0 ≤ (x5_1 : Int):=dA_
   have q476 : x5_1 < (l0.length : Int):=dA_
   obtain ⟨ad476,e476,hx476_0,hx476_1,hx476_2,hx476_3⟩:=at_T88 a0.out x5_1 p476 q476
   have hw476_3:=hx476_3
   have hw476_2:=hx476_2
   have hw476_1:=hx476_1
   have hw476_0:=hx476_0
   cases e476
   replace hx476_0:=cB_ HB hx476_0
   replace hx476_1:=cB_ HB hx476_1
   replace hx476_2:=cB_ HB hx476_2
   replace hx476_3:=cB_ HB hx476_3
   replace p476:=eq_true p476
   replace q476:=eq_true q476
   have p477 : 0 ≤ (x5_1 : Int):=dA_
   have q477 : x5_1 < (l1.length : Int):=dA_
   obtain ⟨ad477,e477,hx477_0,hx477_1,hx477_2,hx477_3⟩:=at_T88 a1.out x5_1 p477 q477
   have hw477_3:=hx477_3
   have hw477_2:=hx477_2
   have hw477_1:=hx477_1
   have hw477_0:=hx477_0
   cases e477
   replace hx477_0:=cB_ HB hx477_0
   replace hx477_1:=cB_ HB hx477_1
   replace hx477_2:=cB_ HB hx477_2
   replace hx477_3:=cB_ HB hx477_3
   replace p477:=eq_true p477
   replace q477:=eq_true q477
   refine start_ (n:=10) (S:=fun w' => w'.cell? (ad476.add ((x5_1).toNat * 4)) = some (.int .i64 ((rd_T88 l0 x5_1).f0)) ∧ w'.cell? ⟨(ad476.add ((x5_1).toNat * 4)).block,(ad476.add ((x5_1).toNat * 4)).off + 1,none⟩ = some (.int .i64 ((rd_T88 l0 x5_1).f1)) ∧ w'.cell? ⟨(ad476.add ((x5_1).toNat * 4)).block,(ad476.add ((x5_1).toNat * 4)).off + 2,none⟩ = some (.int .i64 ((rd_T88 l0 x5_1).f2)) ∧ w'.cell? ⟨(ad476.add ((x5_1).toNat * 4)).block,(ad476.add ((x5_1).toNat * 4)).off + 3,none⟩ = some (.int .i64 ((rd_T88 l0 x5_1).f3)) ∧ w'.cell? (ad477.add ((x5_1).toNat * 4)) = some (.int .i64 ((rd_T88 l1 x5_1).f0)) ∧ w'.cell? ⟨(ad477.add ((x5_1).toNat * 4)).block,(ad477.add ((x5_1).toNat * 4)).off + 1,none⟩ = some (.int .i64 ((rd_T88 l1 x5_1).f1)) ∧ w'.cell? ⟨(ad477.add ((x5_1).toNat * 4)).block,(ad477.add ((x5_1).toNat * 4)).off + 2,none⟩ = some (.int .i64 ((rd_T88 l1 x5_1).f2)) ∧ w'.cell? ⟨(ad477.add ((x5_1).toNat * 4)).block,(ad477.add ((x5_1).toNat * 4)).off + 3,none⟩ = some (.int .i64 ((rd_T88 l1 x5_1).f3))) (ds:=[]) (Bt 10 0) (by kernel_rfl) rfl rfl ⟨(cB_ HB hw476_0),(cB_ HB hw476_1),(cB_ HB hw476_2),(cB_ HB hw476_3),(cB_ HB hw477_0),(cB_ HB hw477_1),(cB_ HB hw477_2),(cB_ HB hw477_3)⟩ (fun hHeld => ?_);refine with_tabW laws_eqGivenS.tab6 laws_eqGivenS.bits6 (fun HT_ HW_ => ?_)
   generalize wr.drew = w9 at HB hx476_0 hx476_1 hx476_2 hx476_3 hx477_0 hx477_1 hx477_2 hx477_3 hHeld ⊢
   refine pu_ 0 (some 17) (Bt 10 1) (any_of HT_.out (by kernel_rfl)) ?_
   refine pu_ 1 (some 18) (Bt 10 3) (any_of HT_.out (by kernel_rfl)) ?_
   refine pu_ 2 (some 19) (Bt 10 7) (any_of HT_.out (by kernel_rfl)) ?_
   refine pu_ 4 (some 21) (Bt 10 23) (any_of HT_.out (by kernel_rfl)) ?_
   refine pu_ 5 (some 22) (Bt 10 55) (any_of HT_.out (by kernel_rfl)) ?_
   refine pu_ 6 (some 23) (Bt 10 119) (any_of HT_.out (by kernel_rfl)) ?_
   refine ta_ 3 (some 20) (Bt 10 127) (take_ofW HT_.out HW_.out (by kernel_rfl)) hHeld ?_
   refine ta_ 7 (some 24) (Bt 10 255) (take_ofW HT_.out HW_.out (by kernel_rfl)) hHeld ?_
   refine one_ (i:=8) (N:=some 25) (Bt 10 511) rfl rfl (one_of HT_.out (by kernel_rfl)) (by decide) (fun K hK => ?_)
   refine goes_ Tryz.func66 (by kernel_rfl) rfl #[.agg #[.int .i64 ((rd_T88 l0 x5_1).f0),.int .i64 ((rd_T88 l0 x5_1).f1),.int .i64 ((rd_T88 l0 x5_1).f2),.int .i64 ((rd_T88 l0 x5_1).f3)],.agg #[.int .i64 ((rd_T88 l1 x5_1).f0),.int .i64 ((rd_T88 l1 x5_1).f1),.int .i64 ((rd_T88 l1 x5_1).f2),.int .i64 ((rd_T88 l1 x5_1).f3)]] (by rfl) rfl rfl (by (try simp only [List.map_toArray,List.map_cons,List.map_nil]);first | done | rfl | (simp only [List.length_drop,List.length_take];rfl)) ?_
   with_reducible refine (laws_eqGiven.calls ((rd_T88 l0 x5_1).f0) ((rd_T88 l0 x5_1).f1) ((rd_T88 l0 x5_1).f2) ((rd_T88 l0 x5_1).f3) ((rd_T88 l1 x5_1).f0) ((rd_T88 l1 x5_1).f1) ((rd_T88 l1 x5_1).f2) ((rd_T88 l1 x5_1).f3) true _ A7.out).mono ?_
   rintro e w10 ⟨rfl,hb⟩
   refine ⟨_,rfl,?_⟩
   replace HB:=Z_ (lP_ Lb_ hb)
   (try clear hb)
   (try clear hb2)
   (try clear hk)
   (try clear hi)
   refine hK.out _ _ ⟨(cB_ HB hw476_0),(cB_ HB hw476_1),(cB_ HB hw476_2),(cB_ HB hw476_3),(cB_ HB hw477_0),(cB_ HB hw477_1),(cB_ HB hw477_2),(cB_ HB hw477_3)⟩ (fun hHeld => ?_)
   clear hK K
   refine norm_ (a':=?_) ?_ ?_
   rotate_left
   ·show Act.put _ (some 25) _ = _
    simp only [Act.put,lA_,lZ_,lS_,i64_w,i32_w]
    rfl
   refine pu_ 9 (some 26) (Bt 10 1023) (any_of HT_.out (by kernel_rfl)) ?_
   refine done_ (done_of HT_.out (by kernel_rfl)) ?_
   try go_wp2
   go_roundg k1
   case measure => have:=HK1.out;omega
   case rel => exact ⟨(wrap64 (x5_1 + 1)),Sr_,H',⟨by have:=HK1.out;omega⟩,⟨Lb_⟩⟩
def laws_eqNet.f (k : Nat) (l0_0 : List (S83)) (l0_1 : List (S76)) (l0_2 l0_3 : List Int) (l0_4 l0_5 : List (S88)) (l1_0 : List (S83)) (l1_1 : List (S76)) (l1_2 l1_3 : List Int) (l1_4 l1_5 : List (S88)) : Option (Bool):=(laws_eqTermS.f k l0_0 l1_0).bind fun t481 => (if t481 = true then ((laws_eqGateS.f k l0_1 l1_1).bind fun t482 => (if t482 = true then ((laws_eqInt64S.f k l0_2 l1_2).bind fun t483 => (if t483 = true then ((laws_eqInt64S.f k l0_3 l1_3).bind fun t484 => (if t484 = true then ((laws_eqGivenS.f k l0_4 l1_4).bind fun t485 => (if t485 = true then ((laws_eqGivenS.f k l0_5 l1_5).bind fun t486 => (if t486 = true then (some true) else (some false))) else (some false))) else (some false))) else (some false))) else (some false))) else (some false))
set_option maxHeartbeats 8000000 in
set_option maxRecDepth 100000 in
theorem laws_eqNet.calls (k : Nat) (A0_0 : Option Addr) (c0_0 : Nat) (l0_0 : List (S83)) (A0_1 : Option Addr) (c0_1 : Nat) (l0_1 : List (S76)) (A0_2 : Option Addr) (c0_2 : Nat) (l0_2 : List Int) (A0_3 : Option Addr) (c0_3 : Nat) (l0_3 : List Int) (A0_4 : Option Addr) (c0_4 : Nat) (l0_4 : List (S88)) (A0_5 : Option Addr) (c0_5 : Nat) (l0_5 : List (S88)) (A1_0 : Option Addr) (c1_0 : Nat) (l1_0 : List (S83)) (A1_1 : Option Addr) (c1_1 : Nat) (l1_1 : List (S76)) (A1_2 : Option Addr) (c1_2 : Nat) (l1_2 : List Int) (A1_3 : Option Addr) (c1_3 : Nat) (l1_3 : List Int) (A1_4 : Option Addr) (c1_4 : Nat) (l1_4 : List (S88)) (A1_5 : Option Addr) (c1_5 : Nat) (l1_5 : List (S88)) (r : Bool) (w : World) (hr0_0 : Kd.C k83 w A0_0 l0_0.length l0_0) (hc0_0 : l0_0.length ≤ c0_0) (hr0_1 : Kd.C k76 w A0_1 l0_1.length l0_1) (hc0_1 : l0_1.length ≤ c0_1) (hr0_2 : Kd.C (Kd.int .i64) w A0_2 l0_2.length l0_2) (hc0_2 : l0_2.length ≤ c0_2) (hr0_3 : Kd.C (Kd.int .i64) w A0_3 l0_3.length l0_3) (hc0_3 : l0_3.length ≤ c0_3) (hr0_4 : Kd.C k88 w A0_4 l0_4.length l0_4) (hc0_4 : l0_4.length ≤ c0_4) (hr0_5 : Kd.C k88 w A0_5 l0_5.length l0_5) (hc0_5 : l0_5.length ≤ c0_5) (hr1_0 : Kd.C k83 w A1_0 l1_0.length l1_0) (hc1_0 : l1_0.length ≤ c1_0) (hr1_1 : Kd.C k76 w A1_1 l1_1.length l1_1) (hc1_1 : l1_1.length ≤ c1_1) (hr1_2 : Kd.C (Kd.int .i64) w A1_2 l1_2.length l1_2) (hc1_2 : l1_2.length ≤ c1_2) (hr1_3 : Kd.C (Kd.int .i64) w A1_3 l1_3.length l1_3) (hc1_3 : l1_3.length ≤ c1_3) (hr1_4 : Kd.C k88 w A1_4 l1_4.length l1_4) (hc1_4 : l1_4.length ≤ c1_4) (hr1_5 : Kd.C k88 w A1_5 l1_5.length l1_5) (hc1_5 : l1_5.length ≤ c1_5) (h : laws_eqNet.f k l0_0 l0_1 l0_2 l0_3 l0_4 l0_5 l1_0 l1_1 l1_2 l1_3 l1_4 l1_5 = some r) :
  Calls Tryz.prog 9 #[.agg #[.slice A0_0 l0_0.length c0_0,.slice A0_1 l0_1.length c0_1,.slice A0_2 l0_2.length c0_2,.slice A0_3 l0_3.length c0_3,.slice A0_4 l0_4.length c0_4,.slice A0_5 l0_5.length c0_5],.agg #[.slice A1_0 l1_0.length c1_0,.slice A1_1 l1_1.length c1_1,.slice A1_2 l1_2.length c1_2,.slice A1_3 l1_3.length c1_3,.slice A1_4 l1_4.length c1_4,.slice A1_5 l1_5.length c1_5]] w fun e w' => e = .returned (.bool r) ∧ Below w.heap.size w w':=by
 have hu34:=Tryz.underlying34
 have HR0_0:=Z_ hr0_0
 have HC0_0:=Z_ hc0_0
 clear hr0_0 hc0_0
 have HR0_1:=Z_ hr0_1
 have HC0_1:=Z_ hc0_1
 clear hr0_1 hc0_1
 have HR0_2:=Z_ hr0_2
 have HC0_2:=Z_ hc0_2
 clear hr0_2 hc0_2
 have HR0_3:=Z_ hr0_3
 have HC0_3:=Z_ hc0_3
 clear hr0_3 hc0_3
 have HR0_4:=Z_ hr0_4
 have HC0_4:=Z_ hc0_4
 clear hr0_4 hc0_4
 have HR0_5:=Z_ hr0_5
 have HC0_5:=Z_ hc0_5
 clear hr0_5 hc0_5
 have HR1_0:=Z_ hr1_0
 have HC1_0:=Z_ hc1_0
 clear hr1_0 hc1_0
 have HR1_1:=Z_ hr1_1
 have HC1_1:=Z_ hc1_1
 clear hr1_1 hc1_1
 have HR1_2:=Z_ hr1_2
 have HC1_2:=Z_ hc1_2
 clear hr1_2 hc1_2
 have HR1_3:=Z_ hr1_3
 have HC1_3:=Z_ hc1_3
 clear hr1_3 hc1_3
 have HR1_4:=Z_ hr1_4
 have HC1_4:=Z_ hc1_4
 clear hr1_4 hc1_4
 have HR1_5:=Z_ hr1_5
 have HC1_5:=Z_ hc1_5
 clear hr1_5 hc1_5
 have HB:=Z_ (Below.refl w.heap.size w)
 unfold laws_eqNet.f at h
 have H:=h
 clear h
 replace H:=bS_ H
 obtain ⟨t481,A3,H⟩:=H
 replace H:=iB_ H
 obtain ⟨rfl,H⟩ | ⟨rfl,H⟩:=H
 replace H:=bS_ H
 obtain ⟨t482,A5,H⟩:=H
 replace H:=iB_ H
 obtain ⟨rfl,H⟩ | ⟨rfl,H⟩:=H
 replace H:=bS_ H
 obtain ⟨t483,A7,H⟩:=H
 replace H:=iB_ H
 obtain ⟨rfl,H⟩ | ⟨rfl,H⟩:=H
 replace H:=bS_ H
 obtain ⟨t484,A9,H⟩:=H
 replace H:=iB_ H
 obtain ⟨rfl,H⟩ | ⟨rfl,H⟩:=H
 replace H:=bS_ H
 obtain ⟨t485,a9,H⟩:=H
 replace H:=iB_ H
 obtain ⟨rfl,H⟩ | ⟨rfl,H⟩:=H
 replace H:=bS_ H
 obtain ⟨t486,af,H⟩:=H
 replace H:=iB_ H
 obtain ⟨rfl,H⟩ | ⟨rfl,H⟩:=H
 all_goals
  obtain rfl:=Option.some.inj H
  go_enter Tryz.func9,Tryz.ntmps9
  go_wp2_with (first | ((with_reducible refine gD_ 2 rfl ?_);refine bx_ #[.slice A0_0 l0_0.length c0_0,.slice A0_1 l0_1.length c0_1,.slice A0_2 l0_2.length c0_2,.slice A0_3 l0_3.length c0_3,.slice A0_4 l0_4.length c0_4,.slice A0_5 l0_5.length c0_5] 34 ?_;intro a6 hg w30 hbox hb;have a0:=Z_ hbox;have a2:=Z_ ((by rw [hg];exact (below_size Lb_) : w.heap.size ≤ a6));replace HB:=Z_ (lP_ Lb_ hb);clear hb hbox hg) | ((with_reducible refine gD_ 3 rfl ?_);refine bx_ #[.slice A1_0 l1_0.length c1_0,.slice A1_1 l1_1.length c1_1,.slice A1_2 l1_2.length c1_2,.slice A1_3 l1_3.length c1_3,.slice A1_4 l1_4.length c1_4,.slice A1_5 l1_5.length c1_5] 34 ?_;intro a7 hg w16 hbox hb;have a1:=Z_ hbox;have a3:=Z_ ((by rw [hg];exact (below_size HB.out) : w.heap.size ≤ a7));replace HB:=Z_ (lP_ HB.out hb);have a4:=Z_ ((by rw [hg];exact Nat.ne_of_lt (blk_lt a0.out) : a6 ≠ a7));replace a0:=Z_ (bB_ a0.out hb);have a5:=Z_ a4.out.symm;clear hb hbox hg;have ag:=a4.out;have ah:=a5.out;obtain ⟨_,_,_,_,_,_,_,_,_,_,_,_⟩:=bc6 a0.out;obtain ⟨_,_,_,_,_,_,_,_,_,_,_,_⟩:=bc6 a1.out) | ((with_reducible refine gate_callee (f:=30) rfl ?_);refine goesA_ (some 9) rfl rfl Tryz.func30 (by kernel_rfl) rfl #[.slice A0_0 l0_0.length c0_0,.slice A1_0 l1_0.length c1_0] rfl ?_;(with_reducible refine (laws_eqTermS.calls k _ _ l0_0 _ _ l1_0 _ _ ?side1 ?side2 ?side3 ?side4 A3.out).mono ?_);(case side1 => exact Cb_ HR0_0);(case side2 => exact HC0_0.out);(case side3 => exact Cb_ HR1_0);(case side4 => exact HC1_0.out);rintro e w20 ⟨rfl,hb⟩;refine ⟨_,rfl,?_⟩;replace a0:=Z_ (bB_ a0.out hb);replace a1:=Z_ (bB_ a1.out hb);replace HB:=Z_ (lP_ HB.out hb);(try clear hb);obtain ⟨_,_,_,_,_,_,_,_,_,_,_,_⟩:=bc6 a0.out;obtain ⟨_,_,_,_,_,_,_,_,_,_,_,_⟩:=bc6 a1.out) | ((with_reducible refine gate_callee (f:=31) rfl ?_);refine goesA_ (some 15) rfl rfl Tryz.func31 (by kernel_rfl) rfl #[.slice A0_1 l0_1.length c0_1,.slice A1_1 l1_1.length c1_1] rfl ?_;(with_reducible refine (laws_eqGateS.calls k _ _ l0_1 _ _ l1_1 _ _ ?side1 ?side2 ?side3 ?side4 A5.out).mono ?_);(case side1 => exact Cb_ HR0_1);(case side2 => exact HC0_1.out);(case side3 => exact Cb_ HR1_1);(case side4 => exact HC1_1.out);rintro e w23 ⟨rfl,hb⟩;refine ⟨_,rfl,?_⟩;replace a0:=Z_ (bB_ a0.out hb);replace a1:=Z_ (bB_ a1.out hb);replace HB:=Z_ (lP_ HB.out hb);(try clear hb);obtain ⟨_,_,_,_,_,_,_,_,_,_,_,_⟩:=bc6 a0.out;obtain ⟨_,_,_,_,_,_,_,_,_,_,_,_⟩:=bc6 a1.out) | ((with_reducible refine gate_callee (f:=32) rfl ?_);refine goesA_ (some 21) rfl rfl Tryz.func32 (by kernel_rfl) rfl #[.slice A0_2 l0_2.length c0_2,.slice A1_2 l1_2.length c1_2] rfl ?_;(with_reducible refine (laws_eqInt64S.calls k _ _ l0_2 _ _ l1_2 _ _ ?side1 ?side2 ?side3 ?side4 A7.out).mono ?_);(case side1 => exact Cb_ HR0_2);(case side2 => exact HC0_2.out);(case side3 => exact Cb_ HR1_2);(case side4 => exact HC1_2.out);rintro e w' ⟨rfl,⟨nd,rfl⟩⟩;refine ⟨_,rfl,?_⟩) | ((with_reducible refine gate_callee (f:=32) rfl ?_);refine goesA_ (some 27) rfl rfl Tryz.func32 (by kernel_rfl) rfl #[.slice A0_3 l0_3.length c0_3,.slice A1_3 l1_3.length c1_3] rfl ?_;(with_reducible refine (laws_eqInt64S.calls k _ _ l0_3 _ _ l1_3 _ _ ?side1 ?side2 ?side3 ?side4 A9.out).mono ?_);(case side1 => exact Cb_ HR0_3);(case side2 => exact HC0_3.out);(case side3 => exact Cb_ HR1_3);(case side4 => exact HC1_3.out);rintro e w' ⟨rfl,⟨nd,rfl⟩⟩;refine ⟨_,rfl,?_⟩) | ((with_reducible refine gate_callee (f:=33) rfl ?_);refine goesA_ (some 33) rfl rfl Tryz.func33 (by kernel_rfl) rfl #[.slice A0_4 l0_4.length c0_4,.slice A1_4 l1_4.length c1_4] rfl ?_;(with_reducible refine (laws_eqGivenS.calls k _ _ l0_4 _ _ l1_4 _ _ ?side1 ?side2 ?side3 ?side4 a9.out).mono ?_);(case side1 => exact Cb_ HR0_4);(case side2 => exact HC0_4.out);(case side3 => exact Cb_ HR1_4);(case side4 => exact HC1_4.out);rintro e w26 ⟨rfl,hb⟩;refine ⟨_,rfl,?_⟩;replace a0:=Z_ (bB_ (g:=a6) (o:=.cells #[.slice A0_0 l0_0.length c0_0,.slice A0_1 l0_1.length c0_1,.slice A0_2 l0_2.length c0_2,.slice A0_3 l0_3.length c0_3,.slice A0_4 l0_4.length c0_4,.slice A0_5 l0_5.length c0_5] 34 (0,0)) (Bk_ a0) hb);replace a1:=Z_ (bB_ (g:=a7) (o:=.cells #[.slice A1_0 l1_0.length c1_0,.slice A1_1 l1_1.length c1_1,.slice A1_2 l1_2.length c1_2,.slice A1_3 l1_3.length c1_3,.slice A1_4 l1_4.length c1_4,.slice A1_5 l1_5.length c1_5] 34 (0,0)) (Bk_ a1) hb);replace HB:=Z_ (lP_ Lb_ hb);(try clear hb);obtain ⟨_,_,_,_,_,_,_,_,_,_,_,_⟩:=bc6 a0.out;obtain ⟨_,_,_,_,_,_,_,_,_,_,_,_⟩:=bc6 a1.out) | ((with_reducible refine gate_callee (f:=33) rfl ?_);refine goesA_ (some 39) rfl rfl Tryz.func33 (by kernel_rfl) rfl #[.slice A0_5 l0_5.length c0_5,.slice A1_5 l1_5.length c1_5] rfl ?_;(with_reducible refine (laws_eqGivenS.calls k _ _ l0_5 _ _ l1_5 _ _ ?side1 ?side2 ?side3 ?side4 af.out).mono ?_);(case side1 => exact Cb_ HR0_5);(case side2 => exact HC0_5.out);(case side3 => exact Cb_ HR1_5);(case side4 => exact HC1_5.out);rintro e w29 ⟨rfl,hb⟩;refine ⟨_,rfl,?_⟩;replace HB:=Z_ (lP_ Lb_ hb);(try clear hb)))
  go_ret
  exact ⟨Er_,Lb_⟩
def spec_l1In.f (a0 a1 a2 : Int) : Option (Bool):=if a0 ≥ a1 then (some (decide (a0 ≤ a2))) else (some false)
set_option maxHeartbeats 8000000 in
set_option maxRecDepth 100000 in
theorem spec_l1In.calls (a0 a1 a2 : Int) (r : Bool) (w : World) (h : spec_l1In.f a0 a1 a2 = some r) :
  Calls Tryz.prog 47 #[.int .i64 a0,.int .i64 a1,.int .i64 a2] w fun e w' => e = .returned (.bool r) ∧ Drawn0 w w':=by
 unfold spec_l1In.f at h
 have H:=h
 clear h
 replace H:=iD_ H
 obtain ⟨c4b0,H⟩ | ⟨c4b0,H⟩:=H
 rotate_left
 focus replace c4b0 : decide (a1 ≤ a0) = false:=c4b0
 rotate_right
 replace c4b0 : decide (a1 ≤ a0) = true:=c4b0
 all_goals
  obtain rfl:=Option.some.inj H
  go_enter Tryz.func47,Tryz.ntmps47
  go_wp2
  go_ret
  exact ⟨by first | rfl | (simp;done) | (simp [*];done),by repeat (first | exact Drawn0.refl _ | apply Drawn0.step)⟩
def spec_l5Kids.j0 : Nat → Int → Bool → Option (Int)
 | 0,_,_ => none
 | k + 1,x3,x4 => if x4 = true then (some 2) else (if x3 = 6 then (some 1) else (some 0))
def spec_l5Kids.f (k : Nat) (a0 : Int) : Option (Int):=if a0 = 3 then (spec_l5Kids.j0 k a0 (a0 == 3)) else (if a0 = 4 then (spec_l5Kids.j0 k a0 (a0 == 4)) else (if a0 = 5 then (spec_l5Kids.j0 k a0 (a0 == 5)) else (spec_l5Kids.j0 k a0 (a0 == 7))))
set_option maxHeartbeats 8000000 in
set_option maxRecDepth 100000 in
theorem spec_l5Kids.calls (k : Nat) (a0 r : Int) (w : World) (h : spec_l5Kids.f k a0 = some r) :
  Calls Tryz.prog 91 #[.int .i64 a0] w fun e w' => e = .returned (.int .i64 r) ∧ Drawn0 w w':=by
 unfold spec_l5Kids.f at h
 have H:=h
 clear h
 have HC2:=Z_ H
 clear H
 go_enter Tryz.func91,Tryz.ntmps91
 go_upto_if 4 with (fail)
 go_cut [4] (fun v4 wc => ∃ (kq : Nat) (x4_1 : Bool),v4 = .bool x4_1 ∧ Aside0 (spec_l5Kids.j0 kq a0 x4_1 = some r) ∧ Aside0 (kq ≤ k) ∧ Drawn0 w wc)
 case first =>
  have H:=HC2.out
  clear HC2
  replace H:=iE_ H
  obtain ⟨c3b0,c3b1,H⟩ | ⟨c3b0,c3b1,H⟩:=H
  focus (first | rw [c3b0] | (simp only [i64_w,i32_w];rw [c3b0]) | skip)
  rotate_left
  (first | rw [c3b0] | (simp only [i64_w,i32_w];rw [c3b0]) | skip)
  replace H:=iE_ H
  obtain ⟨c4b0,c4b1,H⟩ | ⟨c4b0,c4b1,H⟩:=H
  rotate_left
  replace H:=iE_ H
  obtain ⟨c5b0,c5b1,H⟩ | ⟨c5b0,c5b1,H⟩:=H
  all_goals
   have H':=Z_ H
   clear H
   go_wp2
   go_meet
   case rel => exact ⟨_,_,Sr_,H',Ol_,by repeat (first | exact Drawn0.refl _ | apply Drawn0.step)⟩
 case rest =>
  clear HC2
  try clear p2
  try clear c3
  try clear c3b0
  try clear c3b1
  try clear c4
  try clear c4b0
  try clear c4b1
  try clear c5
  try clear c5b0
  try clear c5b1
  obtain ⟨kq,x4_1,rfl,HA,HJ1,⟨mc1,rfl⟩⟩:=hcut
  cases kq with
  | zero => exact absurd HA.out (by simp [spec_l5Kids.j0])
  | succ kj1 =>
   have H:=HA.out
   clear HA
   simp only [spec_l5Kids.j0] at H
   replace H:=iB_ H
   obtain ⟨rfl,H⟩ | ⟨rfl,H⟩:=H
   rotate_left
   replace H:=iE_ H
   obtain ⟨c7b0,c7b1,H⟩ | ⟨c7b0,c7b1,H⟩:=H
   all_goals
    obtain rfl:=Option.some.inj H
    go_wp2
    go_ret
    exact ⟨by first | rfl | (simp;done) | (simp [*];done),by repeat (first | exact Drawn0.refl _ | apply Drawn0.step)⟩
end Go.Proofs.YtcafikgabidphaaGreat.G
