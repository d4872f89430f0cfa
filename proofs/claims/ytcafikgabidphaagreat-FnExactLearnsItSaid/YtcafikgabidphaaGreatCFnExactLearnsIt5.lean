/- Part 5 of the proof of FnExactLearnsIt: what the functions on its road do, and the plain laws. -/
import Derived.Test.YtcafikgabidphaaGreatCFnExactLearnsIt4
import Derived.Maps.OwnOps
import Derived.Maps.Views
import Derived.DeepKeys4
import Derived.RangeFuncNested
import Derived.RangeFuncBound
import Derived.RangeFuncCalls
import Derived.RangeFuncLeaves
import Derived.RangeFuncWrites
import Derived.RangeFuncBox
import Derived.Shelf.Abstract
import Derived.OwnWalkIn
import Derived.TacticsInMore
import Derived.LoopNIn
import Derived.LoopIn
import Derived.OrdersIn
namespace Go.Proofs.YtcafikgabidphaaGreat.G
open Go.RowKit Go.Proofs.YtcafikgabidphaaGreatW.PrintWords Go.Proofs.YtcafikgabidphaaGreatW.PrintLast Go.Proofs.YtcafikgabidphaaGreatW.PrintMore
attribute [local go_sem] max2_int min2_int max_two min_two max_three min_three max_four min_four   -- for this text's walks alone
set_option maxHeartbeats 8000000
set_option maxRecDepth 100000
set_option linter.unusedVariables false
set_option linter.unusedSimpArgs false
theorem impl_Net_gate.callsN (p : Nat) (A0 A1 A2 A3 A4 A5 : Option Addr) (c0 c1 c2 c3 c4 c5 n0 n2 n3 n4 n5 : Nat) (lg : List S76) (x : Int) (w : World) (hI : w.heap[p]? = some (.cells #[.slice A0 n0 c0,.slice A1 lg.length c1,.slice A2 n2 c2,.slice A3 n3 c3,.slice A4 n4 c4,.slice A5 n5 c5] 34 (0,0))) (hx : ¬(1 ≤ x ∧ x ≤ (lg.length : Int))) :
    Calls Tryz.prog 85 #[.pointer (some ⟨p,0,none⟩),.int .i64 x] w fun e w' => e = .returned (.pointer none) ∧ Below w.heap.size w w':=by
  have hu1:=Tryz.underlying34
  have H:=Z_ (show impl_in.f x 1 (lg.length : Int) = some false by rw [impl_in_eq,decide_eq_false hx])
  have BI:=Z_ hI
  clear hx hI
  have HB:=Z_ (Below.refl w.heap.size w)
  obtain ⟨_,_,_,_,_,_,_,_,_,_,_,_⟩:=bc6 BI.out
  go_enter Tryz.func85,Tryz.ntmps85
  go_wp2_with (go_at_call 61;(with_reducible refine (impl_in.calls x 1 (lg.length : Int) false _ H.out).mono ?_);rintro e w9_ ⟨rfl,⟨nd,rfl⟩⟩)
  go_ret
  exact ⟨rfl,by repeat (first | exact HB.out | apply lN_ | apply lD_)⟩
theorem impl_Net_gate.callsY (p : Nat) (A0 A1 A2 A3 A4 A5 : Option Addr) (c0 c1 c2 c3 c4 c5 n0 n2 n3 n4 n5 : Nat) (lg : List S76) (x : Int) (w : World) (hI : w.heap[p]? = some (.cells #[.slice A0 n0 c0,.slice A1 lg.length c1,.slice A2 n2 c2,.slice A3 n3 c3,.slice A4 n4 c4,.slice A5 n5 c5] 34 (0,0))) (hr1 : Kd.C k76 w A1 lg.length lg) (hx : 1 ≤ x ∧ x ≤ (lg.length : Int)) :
    Calls Tryz.prog 85 #[.pointer (some ⟨p,0,none⟩),.int .i64 x] w fun e w' => (∃ ad,A1 = some ad ∧ e = .returned (.pointer (some (ad.add ((x - 1).toNat * 3))))) ∧ Below w.heap.size w w':=by
  have hu1:=Tryz.underlying34
  have hu2:=Tryz.underlying76
  have H:=Z_ (show impl_in.f x 1 (lg.length : Int) = some true by rw [impl_in_eq,decide_eq_true hx])
  have BI:=Z_ hI
  have HN:=hr1.2.1
  obtain ⟨ad,_,_,e,_,_,_,_,_⟩:=at_T76 hr1 (x - 1) (by omega) (by omega)
  subst e
  have hji : IntKind.i64.wrap (x - 1) = x - 1:=by rw [i64_w,w64g (by omega) (by omega)]
  have pj : (0 ≤ x - 1) = True:=eq_true (by omega)
  have qj : (x - 1 < (lg.length : Int)) = True:=eq_true (by omega)
  clear hx hI hr1
  obtain ⟨j,hj⟩ : ∃ j,x - 1 = j:=⟨_,rfl⟩
  have hjiw : IntKind.i64.wrap (x - 1) = j:=hji.trans hj
  rw [hj] at pj qj ⊢
  clear hji hj HN
  have HB:=Z_ (Below.refl w.heap.size w)
  obtain ⟨_,_,_,_,_,_,_,_,_,_,_,_⟩:=bc6 BI.out
  go_enter Tryz.func85,Tryz.ntmps85
  go_wp2_with (go_at_call 61;(with_reducible refine (impl_in.calls x 1 (lg.length : Int) true _ H.out).mono ?_);rintro e w9_ ⟨rfl,⟨nd,rfl⟩⟩)
  go_ret
  exact ⟨⟨ad,rfl,rfl⟩,by repeat (first | exact HB.out | apply lN_ | apply lD_)⟩
def gvTalk (lg : List S76) (g t : Int) : Bool:=decide (1 ≤ g ∧ g ≤ (lg.length : Int)) && decide (0 ≤ t ∧ t ≤ ((rd_T76 lg (g - 1)).f2.length : Int) - 1)
theorem impl_Net_talk.calls (p : Nat) (A0 A1 A2 A3 A4 A5 : Option Addr) (c0 c1 c2 c3 c4 c5 n0 n2 n3 n4 n5 : Nat) (lg : List S76) (x t : Int) (w : World) (hI : w.heap[p]? = some (.cells #[.slice A0 n0 c0,.slice A1 lg.length c1,.slice A2 n2 c2,.slice A3 n3 c3,.slice A4 n4 c4,.slice A5 n5 c5] 34 (0,0))) (hr1 : Kd.C k76 w A1 lg.length lg) :
    Calls Tryz.prog 60 #[.pointer (some ⟨p,0,none⟩),.int .i64 x,.int .i64 t] w fun e w' => (∃ q : Option Addr,q.isSome = gvTalk lg x t ∧ e = .returned (.pointer q)) ∧ Below w.heap.size w w':=by
 have hu1:=Tryz.underlying34
 have hu2:=Tryz.underlying76
 have BI:=Z_ hI
 have HR1:=Z_ hr1
 clear hI hr1
 have HB:=Z_ (Below.refl w.heap.size w)
 by_cases hx : 1 ≤ x ∧ x ≤ (lg.length : Int)
 ·obtain ⟨ag,A2g,c2g,eg,hg0,hg1,hg2,hTL,hTC⟩:=at_T76 HR1.out (x - 1) (by omega) (by omega)
  subst eg
  have hT:=Z_ hTC.2.1
  have HTC:=Z_ hTC
  obtain ⟨b,hb⟩ : ∃ b,b = decide (0 ≤ t ∧ t ≤ ((rd_T76 lg (x - 1)).f2.length : Int) - 1):=⟨_,rfl⟩
  have HV:=Z_ (show gvTalk lg x t = b by unfold gvTalk;rw [decide_eq_true hx,← hb];rfl)
  have HX:=Z_ hx
  have HBB:=Z_ hb
  obtain ⟨j,hj⟩ : ∃ j,x - 1 = j:=⟨_,rfl⟩
  have HJ:=Z_ hj
  clear hTC hTL hg0 hg1 hx hb hj
  rw [HJ.out] at hg2 hT HTC HBB
  generalize (rd_T76 lg j).f2 = tl at hg2 hT HTC HBB
  have H:=Z_ (show impl_in.f t 0 (wrap64 ((tl.length : Int) - 1)) = some b by rw [HBB.out,w64g (by omega) (by have:=hT.out;omega),impl_in_eq])
  have HG:=Z_ (fun W hI' hr' => impl_Net_gate.callsY p A0 (some ag) A2 A3 A4 A5 c0 c1 c2 c3 c4 c5 n0 n2 n3 n4 n5 lg x W hI' hr' HX.out)
  rw [HJ.out] at HG
  cases b with
  | false =>
   go_enter Tryz.func60,Tryz.ntmps60
   go_wp2_with (first | (go_at_call 85;refine (HG.out _ BI.out HR1.out).mono ?_;rintro e w5_ ⟨⟨ad,e1,rfl⟩,hb⟩;cases e1;replace hg2:=(hb.cell (World.block_lt_of_cell? w _ hg2)).trans hg2;replace HB:=Z_ (lP_ HB.out hb);clear hb) | (go_at_call 61;(with_reducible refine (impl_in.calls t 0 (wrap64 ((tl.length : Int) - 1)) false _ H.out).mono ?_);rintro e w9_ ⟨rfl,⟨nd,rfl⟩⟩))
   go_ret
   exact ⟨⟨none,HV.out.symm,rfl⟩,by repeat (first | exact HB.out | apply lN_ | apply lD_)⟩
  | true =>
   have hq:=of_decide_eq_true HBB.out.symm
   obtain ⟨at_,e2,_⟩:=at_T114 HTC.out t hq.1 (by omega)
   subst e2
   have pt : (0 ≤ t) = True:=eq_true hq.1
   have qt : (t < (tl.length : Int)) = True:=eq_true (by omega)
   clear hq
   go_enter Tryz.func60,Tryz.ntmps60
   go_wp2_with (first | (go_at_call 85;refine (HG.out _ BI.out HR1.out).mono ?_;rintro e w5_ ⟨⟨ad,e1,rfl⟩,hb⟩;cases e1;replace hg2:=(hb.cell (World.block_lt_of_cell? w _ hg2)).trans hg2;replace HB:=Z_ (lP_ HB.out hb);clear hb) | (go_at_call 61;(with_reducible refine (impl_in.calls t 0 (wrap64 ((tl.length : Int) - 1)) true _ H.out).mono ?_);rintro e w9_ ⟨rfl,⟨nd,rfl⟩⟩))
   go_ret
   exact ⟨⟨some _,HV.out.symm,rfl⟩,by repeat (first | exact HB.out | apply lN_ | apply lD_)⟩
 ·have HV:=Z_ (show gvTalk lg x t = false by unfold gvTalk;rw [decide_eq_false hx];rfl)
  have HG:=Z_ (fun W hI' => impl_Net_gate.callsN p A0 A1 A2 A3 A4 A5 c0 c1 c2 c3 c4 c5 n0 n2 n3 n4 n5 lg x W hI' hx)
  clear hx
  go_enter Tryz.func60,Tryz.ntmps60
  go_wp2_with (go_at_call 85;refine (HG.out _ BI.out).mono ?_;rintro e w5_ ⟨rfl,hb⟩;replace HB:=Z_ (lP_ HB.out hb);clear hb)
  go_ret
  exact ⟨⟨none,HV.out.symm,rfl⟩,by repeat (first | exact HB.out | apply lN_ | apply lD_)⟩
theorem impl_NetFault_1.calls (p : Nat) (A0 A1 A2 A3 A4 A5 : Option Addr) (c0 c1 c2 c3 c4 c5 n2 n3 n4 n5 : Nat) (lt : List S83) (lg : List S76) (x : S88) (W : World) (hI : W.heap[p]? = some (.cells #[.slice A0 lt.length c0,.slice A1 lg.length c1,.slice A2 n2 c2,.slice A3 n3 c3,.slice A4 n4 c4,.slice A5 n5 c5] 34 (0,0))) (hr0 : Kd.C k83 W A0 lt.length lt) (hr1 : Kd.C k76 W A1 lg.length lg) :
    Calls Tryz.prog 59 (#[.agg #[.int .i64 x.f0,.int .i64 x.f1,.int .i64 x.f2,.int .i64 x.f3]] ++ #[.pointer (some ⟨p,0,none⟩)]) W fun e w' => e = .returned (.bool (gvBad lt lg x)) ∧ Below W.heap.size W w':=by
 have hu1:=Tryz.underlying34
 have hu2:=Tryz.underlying88
 have BI:=Z_ hI
 have a1:=Z_ hr0
 have a0:=Z_ hr1
 have HN0:=Z_ hr0.2.1
 clear hI hr0 hr1
 have HB:=Z_ (Below.refl W.heap.size W)
 obtain ⟨bt,hbt⟩ : ∃ b,b = gvTalk lg x.f0 x.f1:=⟨_,rfl⟩
 obtain ⟨b3,hb3⟩ : ∃ b,b = decide (1 ≤ x.f2 ∧ x.f2 ≤ 9999):=⟨_,rfl⟩
 obtain ⟨b4,hb4⟩ : ∃ b,b = decide (0 ≤ x.f3 ∧ x.f3 ≤ (lt.length : Int) - 1):=⟨_,rfl⟩
 have HV : gvBad lt lg x = !(bt && b3 && b4):=by rw [hbt,hb3,hb4];rfl
 have HT:=Z_ hbt.symm
 have H3:=Z_ (show impl_in.f x.f2 1 9999 = some b3 by rw [hb3];exact impl_in_eq _ _ _)
 have H4:=Z_ (fun W' => impl_isPlace.callsF A0 lt.length c0 x.f3 HN0.out W')
 rw [← hb4] at H4
 rw [HV]
 clear hbt hb3 hb4 HV
 cases bt with
 | false =>
  go_enter Tryz.func59,Tryz.ntmps59
  go_wp2_with (first | ((with_reducible refine gD_ 2 rfl ?_);refine bx_ #[.int .i64 x.f0,.int .i64 x.f1,.int .i64 x.f2,.int .i64 x.f3] 88 ?_;intro g2 hg2 w2 hbox hb;have n0_:=Z_ (bB_ BI.out hb);have n1_:=Z_ (lP_ HB.out hb);have B2:=Z_ hbox;clear BI HB hbox hb hg2;have BI:=n0_;have HB:=n1_;clear n0_ n1_;obtain ⟨_,_,_,_,_,_,_,_⟩:=bc4 B2.out;obtain ⟨_,_,_,_,_,_,_,_,_,_,_,_⟩:=bc6 BI.out) | (go_at_call 60;refine (impl_Net_talk.calls p A0 A1 A2 A3 A4 A5 c0 c1 c2 c3 c4 c5 lt.length n2 n3 n4 n5 lg x.f0 x.f1 _ BI.out (Kd.C_below a0.out HB.out)).mono ?_;rintro e w5_ ⟨⟨q,hq,rfl⟩,hb⟩;replace hq:=hq.trans HT.out;obtain rfl : q = none:=(by cases q with | none => rfl | some _ => simp at hq);clear hq;replace BI:=Z_ (bB_ (by repeat (first | exact BI.out | apply bN_ | apply bD_)) hb);replace B2:=Z_ (bB_ (by repeat (first | exact B2.out | apply bN_ | apply bD_)) hb);replace HB:=Z_ (lP_ (by repeat (first | exact HB.out | apply lN_ | apply lD_)) hb);clear hb;obtain ⟨_,_,_,_,_,_,_,_⟩:=bc4 B2.out;obtain ⟨_,_,_,_,_,_,_,_,_,_,_,_⟩:=bc6 BI.out))
  go_ret
  exact ⟨rfl,(by repeat (first | exact HB.out | apply lN_ | apply lD_))⟩
 | true =>
  cases b3 with
  | false =>
   go_enter Tryz.func59,Tryz.ntmps59
   go_wp2_with (first | ((with_reducible refine gD_ 2 rfl ?_);refine bx_ #[.int .i64 x.f0,.int .i64 x.f1,.int .i64 x.f2,.int .i64 x.f3] 88 ?_;intro g2 hg2 w2 hbox hb;have n0_:=Z_ (bB_ BI.out hb);have n1_:=Z_ (lP_ HB.out hb);have B2:=Z_ hbox;clear BI HB hbox hb hg2;have BI:=n0_;have HB:=n1_;clear n0_ n1_;obtain ⟨_,_,_,_,_,_,_,_⟩:=bc4 B2.out;obtain ⟨_,_,_,_,_,_,_,_,_,_,_,_⟩:=bc6 BI.out) | (go_at_call 60;refine (impl_Net_talk.calls p A0 A1 A2 A3 A4 A5 c0 c1 c2 c3 c4 c5 lt.length n2 n3 n4 n5 lg x.f0 x.f1 _ BI.out (Kd.C_below a0.out HB.out)).mono ?_;rintro e w5_ ⟨⟨q,hq,rfl⟩,hb⟩;replace hq:=hq.trans HT.out;obtain ⟨adq,rfl⟩:=Option.isSome_iff_exists.1 hq;clear hq;replace BI:=Z_ (bB_ (by repeat (first | exact BI.out | apply bN_ | apply bD_)) hb);replace B2:=Z_ (bB_ (by repeat (first | exact B2.out | apply bN_ | apply bD_)) hb);replace HB:=Z_ (lP_ (by repeat (first | exact HB.out | apply lN_ | apply lD_)) hb);clear hb;obtain ⟨_,_,_,_,_,_,_,_⟩:=bc4 B2.out;obtain ⟨_,_,_,_,_,_,_,_,_,_,_,_⟩:=bc6 BI.out) | (go_at_call 61;(with_reducible refine (impl_in.calls x.f2 1 9999 false _ H3.out).mono ?_);rintro e w9_ ⟨rfl,⟨nd,rfl⟩⟩))
   go_ret
   exact ⟨rfl,(by repeat (first | exact HB.out | apply lN_ | apply lD_))⟩
  | true =>
   cases b4 with
   | false =>
    go_enter Tryz.func59,Tryz.ntmps59
    go_wp2_with (first | ((with_reducible refine gD_ 2 rfl ?_);refine bx_ #[.int .i64 x.f0,.int .i64 x.f1,.int .i64 x.f2,.int .i64 x.f3] 88 ?_;intro g2 hg2 w2 hbox hb;have n0_:=Z_ (bB_ BI.out hb);have n1_:=Z_ (lP_ HB.out hb);have B2:=Z_ hbox;clear BI HB hbox hb hg2;have BI:=n0_;have HB:=n1_;clear n0_ n1_;obtain ⟨_,_,_,_,_,_,_,_⟩:=bc4 B2.out;obtain ⟨_,_,_,_,_,_,_,_,_,_,_,_⟩:=bc6 BI.out) | (go_at_call 60;refine (impl_Net_talk.calls p A0 A1 A2 A3 A4 A5 c0 c1 c2 c3 c4 c5 lt.length n2 n3 n4 n5 lg x.f0 x.f1 _ BI.out (Kd.C_below a0.out HB.out)).mono ?_;rintro e w5_ ⟨⟨q,hq,rfl⟩,hb⟩;replace hq:=hq.trans HT.out;obtain ⟨adq,rfl⟩:=Option.isSome_iff_exists.1 hq;clear hq;replace BI:=Z_ (bB_ (by repeat (first | exact BI.out | apply bN_ | apply bD_)) hb);replace B2:=Z_ (bB_ (by repeat (first | exact B2.out | apply bN_ | apply bD_)) hb);replace HB:=Z_ (lP_ (by repeat (first | exact HB.out | apply lN_ | apply lD_)) hb);clear hb;obtain ⟨_,_,_,_,_,_,_,_⟩:=bc4 B2.out;obtain ⟨_,_,_,_,_,_,_,_,_,_,_,_⟩:=bc6 BI.out) | (go_at_call 61;(with_reducible refine (impl_in.calls x.f2 1 9999 true _ H3.out).mono ?_);rintro e w9_ ⟨rfl,⟨nd,rfl⟩⟩) | (go_at_call 28;refine (H4.out _).mono ?_;rintro e w8_ ⟨rfl,hb⟩;replace BI:=Z_ (bB_ (by repeat (first | exact BI.out | apply bN_ | apply bD_)) hb);replace B2:=Z_ (bB_ (by repeat (first | exact B2.out | apply bN_ | apply bD_)) hb);replace HB:=Z_ (lP_ (by repeat (first | exact HB.out | apply lN_ | apply lD_)) hb);clear hb;obtain ⟨_,_,_,_,_,_,_,_⟩:=bc4 B2.out;obtain ⟨_,_,_,_,_,_,_,_,_,_,_,_⟩:=bc6 BI.out))
    go_ret
    exact ⟨rfl,(by repeat (first | exact HB.out | apply lN_ | apply lD_))⟩
   | true =>
    go_enter Tryz.func59,Tryz.ntmps59
    go_wp2_with (first | ((with_reducible refine gD_ 2 rfl ?_);refine bx_ #[.int .i64 x.f0,.int .i64 x.f1,.int .i64 x.f2,.int .i64 x.f3] 88 ?_;intro g2 hg2 w2 hbox hb;have n0_:=Z_ (bB_ BI.out hb);have n1_:=Z_ (lP_ HB.out hb);have B2:=Z_ hbox;clear BI HB hbox hb hg2;have BI:=n0_;have HB:=n1_;clear n0_ n1_;obtain ⟨_,_,_,_,_,_,_,_⟩:=bc4 B2.out;obtain ⟨_,_,_,_,_,_,_,_,_,_,_,_⟩:=bc6 BI.out) | (go_at_call 60;refine (impl_Net_talk.calls p A0 A1 A2 A3 A4 A5 c0 c1 c2 c3 c4 c5 lt.length n2 n3 n4 n5 lg x.f0 x.f1 _ BI.out (Kd.C_below a0.out HB.out)).mono ?_;rintro e w5_ ⟨⟨q,hq,rfl⟩,hb⟩;replace hq:=hq.trans HT.out;obtain ⟨adq,rfl⟩:=Option.isSome_iff_exists.1 hq;clear hq;replace BI:=Z_ (bB_ (by repeat (first | exact BI.out | apply bN_ | apply bD_)) hb);replace B2:=Z_ (bB_ (by repeat (first | exact B2.out | apply bN_ | apply bD_)) hb);replace HB:=Z_ (lP_ (by repeat (first | exact HB.out | apply lN_ | apply lD_)) hb);clear hb;obtain ⟨_,_,_,_,_,_,_,_⟩:=bc4 B2.out;obtain ⟨_,_,_,_,_,_,_,_,_,_,_,_⟩:=bc6 BI.out) | (go_at_call 61;(with_reducible refine (impl_in.calls x.f2 1 9999 true _ H3.out).mono ?_);rintro e w9_ ⟨rfl,⟨nd,rfl⟩⟩) | (go_at_call 28;refine (H4.out _).mono ?_;rintro e w8_ ⟨rfl,hb⟩;replace BI:=Z_ (bB_ (by repeat (first | exact BI.out | apply bN_ | apply bD_)) hb);replace B2:=Z_ (bB_ (by repeat (first | exact B2.out | apply bN_ | apply bD_)) hb);replace HB:=Z_ (lP_ (by repeat (first | exact HB.out | apply lN_ | apply lD_)) hb);clear hb;obtain ⟨_,_,_,_,_,_,_,_⟩:=bc4 B2.out;obtain ⟨_,_,_,_,_,_,_,_,_,_,_,_⟩:=bc6 BI.out))
    go_ret
    exact ⟨rfl,(by repeat (first | exact HB.out | apply lN_ | apply lD_))⟩
def impl_Net_gatesFault.f (k : Nat) (lt : List S83) (lg : List S76) (n4 n5 : Nat) : Option Int :=
  if 2 ≤ lg.length ∧ lg.length ≤ 4 then (if n4 ≤ 60 then (if n5 ≤ 60 then nfGates (impl_GateFault.f k lt) 0 lg else some 2) else some 2) else some 2
theorem impl_Net_gatesFault.calls (k p : Nat) (A0 A1 A2 A3 A4 A5 : Option Addr) (c0 c1 c2 c3 c4 c5 n2 n3 n4 n5 : Nat) (lt : List S83) (lg : List S76) (r : Int) (w : World) (hI : w.heap[p]? = some (.cells #[.slice A0 lt.length c0,.slice A1 lg.length c1,.slice A2 n2 c2,.slice A3 n3 c3,.slice A4 n4 c4,.slice A5 n5 c5] 34 (0,0))) (hr0 : Kd.C k83 w A0 lt.length lt) (hc0 : lt.length ≤ c0) (hr1 : Kd.C k76 w A1 lg.length lg) (h : impl_Net_gatesFault.f k lt lg n4 n5 = some r) :
    Calls Tryz.prog 54 #[.pointer (some ⟨p,0,none⟩)] w fun e w' => e = .returned (.int .i64 r) ∧ Below w.heap.size w w':=by
 have hu1:=Tryz.underlying34
 have hu2:=Tryz.underlying76
 have BI:=Z_ hI
 have a0:=Z_ hr0
 have a1:=Z_ hc0
 have a2:=Z_ hr1
 have HN1:=Z_ hr1.2.1
 clear hI hr0 hc0 hr1
 have HB:=Z_ (Below.refl w.heap.size w)
 unfold impl_Net_gatesFault.f at h
 obtain ⟨_,_,_,_,_,_,_,_,_,_,_,_⟩:=bc6 BI.out
 by_cases q1 : 2 ≤ lg.length ∧ lg.length ≤ 4
 rotate_left
 ·rw [if_neg q1] at h
  have H1:=Z_ (show impl_gatesOk.f (lg.length : Int) = some false by unfold impl_gatesOk.f;rw [impl_in_eq,decide_eq_false (by omega)];rfl)
  clear q1
  obtain rfl:=Option.some.inj h
  go_enter Tryz.func54,Tryz.ntmps54
  go_wp2_with (first | (go_at_call 81;(with_reducible refine (impl_gatesOk.calls (lg.length : Int) false _ H1.out).mono ?_);rintro e w9_ ⟨rfl,⟨nd,rfl⟩⟩))
  go_ret
  exact ⟨rfl,by repeat (first | exact HB.out | apply lN_ | apply lD_)⟩
 rw [if_pos q1] at h
 have H1:=Z_ (show impl_gatesOk.f (lg.length : Int) = some true by unfold impl_gatesOk.f;rw [impl_in_eq,decide_eq_true (by omega)];rfl)
 clear q1
 by_cases q2 : n4 ≤ 60
 rotate_left
 ·rw [if_neg q2] at h
  have x4a : decide (60 < (n4 : Int)) = true:=decide_eq_true (by omega)
  have x4b : decide (60 < n4) = true:=decide_eq_true (by omega)
  have x4c : (60 < n4) = True:=eq_true (by omega)
  clear q2
  obtain rfl:=Option.some.inj h
  go_enter Tryz.func54,Tryz.ntmps54
  go_wp2_with (first | (go_at_call 81;(with_reducible refine (impl_gatesOk.calls (lg.length : Int) true _ H1.out).mono ?_);rintro e w9_ ⟨rfl,⟨nd,rfl⟩⟩))
  go_ret
  exact ⟨rfl,by repeat (first | exact HB.out | apply lN_ | apply lD_)⟩
 rw [if_pos q2] at h
 have x4a : decide (60 < (n4 : Int)) = false:=decide_eq_false (by omega)
 have x4b : decide (60 < n4) = false:=decide_eq_false (by omega)
 have x4c : (60 < n4) = False:=eq_false (by omega)
 clear q2
 by_cases q2 : n5 ≤ 60
 rotate_left
 ·rw [if_neg q2] at h
  have x5a : decide (60 < (n5 : Int)) = true:=decide_eq_true (by omega)
  have x5b : decide (60 < n5) = true:=decide_eq_true (by omega)
  have x5c : (60 < n5) = True:=eq_true (by omega)
  clear q2
  obtain rfl:=Option.some.inj h
  go_enter Tryz.func54,Tryz.ntmps54
  go_wp2_with (first | (go_at_call 81;(with_reducible refine (impl_gatesOk.calls (lg.length : Int) true _ H1.out).mono ?_);rintro e w9_ ⟨rfl,⟨nd,rfl⟩⟩))
  go_ret
  exact ⟨rfl,by repeat (first | exact HB.out | apply lN_ | apply lD_)⟩
 rw [if_pos q2] at h
 have x5a : decide (60 < (n5 : Int)) = false:=decide_eq_false (by omega)
 have x5b : decide (60 < n5) = false:=decide_eq_false (by omega)
 have x5c : (60 < n5) = False:=eq_false (by omega)
 clear q2
 have H:=Z_ h
 clear h
 go_enter Tryz.func54,Tryz.ntmps54
 go_wp2_with (first | (go_at_call 81;(with_reducible refine (impl_gatesOk.calls (lg.length : Int) true _ H1.out).mono ?_);rintro e w9_ ⟨rfl,⟨nd,rfl⟩⟩))
 go_loopg [34] lg.length (fun gg v34 wr => ∃ kk : Nat,kk ≤ lg.length ∧ lg.length - kk ≤ gg ∧ v34 = .int .i64 kk ∧ Aside0 (Below w.heap.size w wr) ∧ Aside0 (nfGates (impl_GateFault.f k lt) kk (lg.drop kk) = some r))
 case atStart => exact ⟨0,Nat.zero_le _,by omega,rfl,⟨by repeat (first | exact HB.out | apply lN_ | apply lD_)⟩,H⟩
 case round =>
  clear H HB
  obtain ⟨kk,hkk,hgg,rfl,HB,H⟩:=hrel
  by_cases hlt : kk < lg.length
  rotate_left
  ·have hltz : ¬ (kk : Int) < (lg.length : Int):=by omega
   obtain rfl : kk = lg.length:=by omega
   obtain rfl : 0 = r:=by have h:=H.out;rw [List.drop_length] at h;exact Option.some.inj h
   go_wp2
   go_ret
   exact ⟨rfl,HB.out⟩
  have hltz : (kk : Int) < (lg.length : Int):=by omega
  have h:=H.out
  clear H
  rw [nf_get lg kk hlt] at h
  unfold nfGates at h
  obtain ⟨c,hc,h⟩:=Option.bind_eq_some_iff.mp h
  have HF:=Z_ hc
  have H:=Z_ h
  clear hc h
  obtain ⟨ad,A2e,c2e,e,hx0,hx1,hx2,hTL,hTC⟩:=at_T76 a2.out (kk : Int) (by omega) (by omega)
  cases e
  rw [Int.toNat_natCast] at hx0 hx1 hx2
  replace hx0:=cB_ HB hx0
  replace hx1:=cB_ HB hx1
  replace hx2:=cB_ HB hx2
  generalize rd_T76 lg (kk : Int) = y at hx0 hx1 hx2 hTL hTC HF H
  have HTL:=Z_ hTL
  have HTC:=Z_ hTC
  clear hTL hTC
  have BW:=Z_ (HB.out.block p (blk_lt BI.out) |>.trans BI.out)
  obtain ⟨_,_,_,_,_,_,_,_,_,_,_,_⟩:=bc6 BW.out
  go_wp2_with (first | ((with_reducible refine gD_ 4 rfl ?_);refine bx_ #[.int .i64 0,.int .i64 0,.slice none 0 0] 76 ?_;intro g4 hg4 w4 hbox hb;have n0_:=Z_ (bB_ BW.out hb);have n1_:=Z_ (lP_ HB.out hb);have B4:=Z_ hbox;have S4:=Z_ ((by rw [hg4];exact (below_size HB.out) : w.heap.size ≤ g4));have NE:=Z_ ((by rw [hg4];exact Nat.ne_of_lt (blk_lt BW.out)) : p ≠ g4);clear HB BW hbox hb hg4;have BW:=n0_;have HB:=n1_;clear n0_ n1_) | ((with_reducible refine gate_store (t:=76) rfl ?_);refine store_box_ (by rfl) (by rfl) (by rfl) (by rfl) (by rfl) (g:=g4) (t:=76) (old:=#[.int .i64 0,.int .i64 0,.slice none 0 0]) B4.out (by rfl) (by kernel_rfl) (by rfl) ?_;intro wS hst hU;replace BW:=Z_ (bU_ hU BW.out NE.out);replace HB:=Z_ (lU_ hU HB.out S4.out);replace B4:=Z_ hst;clear hst hU))
  clear hx0 hx1 hx2
  replace BW:=Z_ (bD_ BW.out)
  replace B4:=Z_ (bD_ B4.out)
  replace HB:=Z_ (lD_ HB.out)
  refine start_ (n:=7) (S:=fun w' => w'.cell? ⟨p,0,none⟩ = some (.slice A0 lt.length c0) ∧ w'.cell? ⟨g4,0,none⟩ = some (.int .i64 y.f0) ∧ w'.cell? ⟨g4,1,none⟩ = some (.int .i64 y.f1) ∧ w'.cell? ⟨g4,2,none⟩ = some (.slice A2e y.f2.length c2e)) (ds:=[]) (Bt 7 0) (by kernel_rfl) rfl rfl ⟨(blk_cell BW.out 0).trans rfl,(blk_cell B4.out 0).trans rfl,(blk_cell B4.out 1).trans rfl,(blk_cell B4.out 2).trans rfl⟩ (fun hHeld => ?_)
  generalize wS.drew = wD at BW B4 HB hHeld ⊢
  refine pu_ 0 (some 39) (Bt 7 1) (by kernel_rfl) ?_
  refine pu_ 1 (some 40) (Bt 7 3) (by kernel_rfl) ?_
  refine pu_ 2 (some 41) (Bt 7 7) (by kernel_rfl) ?_
  refine ta_ 3 (some 42) (Bt 7 15) (by kernel_rfl) hHeld ?_
  refine ta_ 4 (some 43) (Bt 7 31) (by kernel_rfl) hHeld ?_
  refine one_ (i:=5) (N:=some 44) (Bt 7 63) rfl rfl (by kernel_rfl) (by decide) (fun K hK => ?_)
  refine goes_ Tryz.func82 (by kernel_rfl) rfl #[.slice A0 lt.length c0,.agg #[.int .i64 y.f0,.int .i64 y.f1,.slice A2e y.f2.length c2e]] (by rfl) rfl rfl (by (try simp only [List.map_toArray,List.map_cons,List.map_nil]);first | done | rfl) ?_
  refine (impl_GateFault.calls k A0 c0 lt y.f0 y.f1 A2e c2e y.f2 c _ (Kd.C_below a0.out HB.out) a1.out (Kd.C_below HTC.out HB.out) HTL.out HF.out).mono ?_
  rintro e w44 ⟨rfl,hb⟩
  refine ⟨_,rfl,?_⟩
  have n0_:=Z_ (bB_ BW.out hb)
  have n1_:=Z_ (bB_ B4.out hb)
  have n2_:=Z_ (lP_ HB.out hb)
  clear BW B4 HB hb
  have BW:=n0_
  have B4:=n1_
  have HB:=n2_
  clear n0_ n1_ n2_
  refine hK.out _ _ ⟨(blk_cell BW.out 0).trans rfl,(blk_cell B4.out 0).trans rfl,(blk_cell B4.out 1).trans rfl,(blk_cell B4.out 2).trans rfl⟩ (fun hHeld => ?_)
  clear hK K
  refine norm_ (a':=?_) ?_ ?_
  rotate_left
  ·show Act.put _ (some 44) _ = _
   simp only [Act.put,lA_,lZ_,lS_,i64_w,i32_w]
   rfl
  refine pu_ 6 (some 5) (Bt 7 127) (by kernel_rfl) ?_
  refine done_ (by kernel_rfl) ?_
  obtain ⟨_,_,_,_,_,_⟩:=bc3 B4.out
  have h:=H.out
  clear H
  by_cases hz : c = 0
  rotate_left
  ·rw [if_neg hz] at h
   obtain rfl:=Option.some.inj h
   have hz0 : (c == 0) = false:=by simpa using hz
   have hz1 : (c != 0) = true:=by simpa using hz
   go_wp2
   go_ret
   exact ⟨rfl,HB.out⟩
  rw [if_pos hz] at h
  subst hz
  have hw1 : IntKind.i64.wrap ((kk : Int) + 1) = (kk : Int) + 1:=by rw [i64_w,w64g (by omega) (by have:=HN1.out;omega)]
  by_cases hid : y.f0 = (kk : Int) + 1
  rotate_left
  ·rw [if_neg hid] at h
   obtain rfl:=Option.some.inj h
   have hz0 : (y.f0 == (kk : Int) + 1) = false:=by simpa using hid
   have hz1 : (y.f0 != (kk : Int) + 1) = true:=by simpa using hid
   go_wp2
   go_ret
   exact ⟨rfl,HB.out⟩
  rw [if_pos hid] at h
  have hz0 : (y.f0 == (kk : Int) + 1) = true:=by simpa using hid
  have hz1 : (y.f0 != (kk : Int) + 1) = false:=by simpa using hid
  clear hid
  have H:=Z_ (show nfGates (impl_GateFault.f k lt) ((kk + 1 : Nat) : Int) (lg.drop (kk + 1)) = some r from by push_cast;exact h)
  clear h
  go_wp2
  go_roundg (lg.length - (kk + 1))
  case measure => omega
  case rel => exact ⟨kk + 1,by omega,by omega,(by have:=HN1.out;first | rfl | (rw [hw1];push_cast;rfl) | (rw [w64g (by omega) (by omega)];push_cast;rfl) | (push_cast;rfl)),HB,H⟩
def svEnc (x : Option Addr × Nat × Nat) : Value:=.slice x.1 x.2.1 x.2.2
def svK : Kd (Option Addr × Nat × Nat):=Kd.scalar svEnc (fun _ => rfl)
theorem sv_reps {w : World} {base : Nat} {ok : Nat → Prop} : ∀ xs : List (Option Addr × Nat × Nat),Reps (svK.M w base ok) svK.sz xs (xs.map svEnc)
  | xs => ⟨by simp [svK,Kd.scalar],fun j p h => by
    obtain ⟨hj,rfl⟩:=List.getElem?_eq_some_iff.1 h
    show ((xs.map svEnc).drop (j * 1)).take 1 = [svEnc xs[j]]
    rw [Nat.mul_one,List.drop_eq_getElem_cons (by simpa using hj)]
    simp⟩
theorem sv_two {w : World} {A A4 A5 : Option Addr} {c4 c5 : Nat} {l4 l5 : List S88} (h : Kd.C svK w A 2 [(A4,l4.length,c4),(A5,l5.length,c5)]) (h4 : Kd.C k88 w A4 l4.length l4) (k4 : l4.length ≤ c4) (h5 : Kd.C k88 w A5 l5.length l5) (k5 : l5.length ≤ c5) : Kd.C (Kd.slice 88 k88) w A 2 [l4,l5]:=by
  refine ⟨rfl,h.2.1,fun hn => ?_⟩
  obtain ⟨ad,e,hc⟩:=h.2.2 hn
  refine ⟨ad,e,fun j p hp => ?_⟩
  match j,hp with
  | 0,hp =>
    obtain ⟨c,hs,hK,hcell⟩:=hc 0 _ rfl
    cases hp
    exact ⟨c,hs,⟨A4,c4,hK,k4,h4⟩,hcell⟩
  | 1,hp =>
    obtain ⟨c,hs,hK,hcell⟩:=hc 1 _ rfl
    cases hp
    exact ⟨c,hs,⟨A5,c5,hK,k5,h5⟩,hcell⟩
def impl_NetFault.f (k : Nat) (lt : List S83) (lg : List S76) (lb lh : List Int) (lv lw : List S88) : Option Int :=
  (impl_TermsFault.f lt).bind fun t => (impl_faultOf.f k [t]).bind fun t' => if t' = 0 then
    (impl_Net_gatesFault.f k lt lg lv.length lw.length).bind fun u => if u = 0 then
      (impl_brokenFault.f k lb).bind fun b => (impl_KnownFault.f k lt lh).bind fun n => (impl_faultOf.f k [b,n]).bind fun v => if v = 0 then
        (impl_Given_58.f [lv,lw]).bind fun ws => some (if ws.any (gvBad lt lg) = true then 3 else 0)
      else some v
    else some u
  else some t'
theorem impl_NetFault.calls (k : Nat) (A0 : Option Addr) (c0 : Nat) (lt : List S83) (A1 : Option Addr) (c1 : Nat) (lg : List S76) (A2 : Option Addr) (c2 : Nat) (lb : List Int) (A3 : Option Addr) (c3 : Nat) (lh : List Int) (A4 : Option Addr) (c4 : Nat) (lv : List S88) (A5 : Option Addr) (c5 : Nat) (lw : List S88) (r : Int) (w : World) (hr0 : Kd.C k83 w A0 lt.length lt) (hc0 : lt.length ≤ c0) (hr1 : Kd.C k76 w A1 lg.length lg) (hc1 : lg.length ≤ c1) (hr2 : Kd.C (Kd.int .i64) w A2 lb.length lb) (hc2 : lb.length ≤ c2) (hr3 : Kd.C (Kd.int .i64) w A3 lh.length lh) (hc3 : lh.length ≤ c3) (hr4 : Kd.C k88 w A4 lv.length lv) (hc4 : lv.length ≤ c4) (hr5 : Kd.C k88 w A5 lw.length lw) (hc5 : lw.length ≤ c5) (h : impl_NetFault.f k lt lg lb lh lv lw = some r) :
    Calls Tryz.prog 27 #[.agg #[.slice A0 lt.length c0,.slice A1 lg.length c1,.slice A2 lb.length c2,.slice A3 lh.length c3,.slice A4 lv.length c4,.slice A5 lw.length c5]] w fun e w' => e = .returned (.int .i64 r) ∧ Below w.heap.size w w':=by
 have hu1:=Tryz.underlying34
 have hu2:=Tryz.underlying76
 have a0:=Z_ hr0
 have a1:=Z_ hc0
 clear hr0 hc0
 have a2:=Z_ hr1
 have ae:=Z_ hc1
 clear hr1 hc1
 have aa:=Z_ hr2
 have ab:=Z_ hc2
 clear hr2 hc2
 have ac:=Z_ hr3
 have ad:=Z_ hc3
 clear hr3 hc3
 have a5:=Z_ hr4
 have a6:=Z_ hc4
 clear hr4 hc4
 have a7:=Z_ hr5
 have a8:=Z_ hc5
 clear hr5 hc5
 have HN1:=Z_ a2.out.2.1
 have HB:=Z_ (Below.refl w.heap.size w)
 unfold impl_NetFault.f at h
 obtain ⟨t,ht,h⟩:=Option.bind_eq_some_iff.mp h
 have HTF:=Z_ ht
 clear ht
 obtain ⟨t1,ht,h⟩:=Option.bind_eq_some_iff.mp h
 have HF1:=Z_ ht
 clear ht
 by_cases hz : t1 = 0
 rotate_left
 ·rw [if_neg hz] at h
  obtain rfl:=Option.some.inj h
  have hz0 : (t1 == 0) = false:=by simpa using hz
  have hz1 : (t1 != 0) = true:=by simpa using hz
  clear hz
  go_enter Tryz.func27,Tryz.ntmps27
  go_wp2_with (first | ((with_reducible refine gD_ 1 rfl ?_);refine bx_ #[.slice A0 lt.length c0,.slice A1 lg.length c1,.slice A2 lb.length c2,.slice A3 lh.length c3,.slice A4 lv.length c4,.slice A5 lw.length c5] 34 ?_;intro p hg1 w1 hbox hb;have n1_:=Z_ (lP_ HB.out hb);have BI:=Z_ hbox;have SP:=Z_ ((by rw [hg1];exact (below_size HB.out) : w.heap.size ≤ p));clear HB hbox hb hg1;have HB:=n1_;clear n1_;obtain ⟨_,_,_,_,_,_,_,_,_,_,_,_⟩:=bc6 BI.out) | (go_at_call 53;refine (impl_TermsFault.calls A0 c0 lt t _ (Kd.C_below a0.out (by repeat (first | exact HB.out | apply lN_ | apply lD_))) a1.out HTF.out).mono ?_;rintro e w7_ ⟨rfl,hb⟩;replace BI:=Z_ (bB_ (by repeat (first | exact BI.out | apply bN_ | apply bD_)) hb);replace HB:=Z_ (lP_ (by repeat (first | exact HB.out | apply lN_ | apply lD_)) hb);clear hb;obtain ⟨_,_,_,_,_,_,_,_,_,_,_,_⟩:=bc6 BI.out) | ((with_reducible refine gD_ 9 rfl ?_);refine Kd.R_lit (Kd.int .i64) _ 2 ?hg (N:=9) ?hd (xs:=[t]) (inner:=[.int .i64 t]) (ok:=fun _ => True) (okp:=fun _ => True) ?hr ?hp (fun _ hk => hk) trivial (Below.refl _ _) (Nat.le_refl _) (by simp) ?_;(case hd => rfl);(case hg => rfl);(case hr => first | (go_simp;done) | (go_simp;rfl));(case hp => exact repsG_ _);intro vL wL hoL hb hg hn;clear hg hn;obtain ⟨A9,c9,eL⟩:=Kd.R_slice hoL;subst eL;have RL9:=Z_ (Kd.R_reads' hoL);clear hoL;replace BI:=Z_ (bB_ (by repeat (first | exact BI.out | apply bN_ | apply bD_)) hb);replace HB:=Z_ (lP_ (by repeat (first | exact HB.out | apply lN_ | apply lD_)) hb);clear hb;obtain ⟨_,_,_,_,_,_,_,_,_,_,_,_⟩:=bc6 BI.out) | (go_at_call 52;refine (impl_faultOf.calls k A9 c9 [t] t1 _ RL9.out.2.2 RL9.out.2.1 HF1.out).mono ?_;rintro e w9_ ⟨rfl,⟨nd,rfl⟩⟩))
  go_ret
  exact ⟨rfl,(by repeat (first | exact HB.out | apply lN_ | apply lD_))⟩
 rw [if_pos hz] at h
 subst hz
 obtain ⟨u,ht,h⟩:=Option.bind_eq_some_iff.mp h
 have HGF:=Z_ ht
 clear ht
 by_cases hz : u = 0
 rotate_left
 ·rw [if_neg hz] at h
  obtain rfl:=Option.some.inj h
  have hz0 : (u == 0) = false:=by simpa using hz
  have hz1 : (u != 0) = true:=by simpa using hz
  clear hz
  go_enter Tryz.func27,Tryz.ntmps27
  go_wp2_with (first | ((with_reducible refine gD_ 1 rfl ?_);refine bx_ #[.slice A0 lt.length c0,.slice A1 lg.length c1,.slice A2 lb.length c2,.slice A3 lh.length c3,.slice A4 lv.length c4,.slice A5 lw.length c5] 34 ?_;intro p hg1 w1 hbox hb;have n1_:=Z_ (lP_ HB.out hb);have BI:=Z_ hbox;have SP:=Z_ ((by rw [hg1];exact (below_size HB.out) : w.heap.size ≤ p));clear HB hbox hb hg1;have HB:=n1_;clear n1_;obtain ⟨_,_,_,_,_,_,_,_,_,_,_,_⟩:=bc6 BI.out) | (go_at_call 53;refine (impl_TermsFault.calls A0 c0 lt t _ (Kd.C_below a0.out (by repeat (first | exact HB.out | apply lN_ | apply lD_))) a1.out HTF.out).mono ?_;rintro e w7_ ⟨rfl,hb⟩;replace BI:=Z_ (bB_ (by repeat (first | exact BI.out | apply bN_ | apply bD_)) hb);replace HB:=Z_ (lP_ (by repeat (first | exact HB.out | apply lN_ | apply lD_)) hb);clear hb;obtain ⟨_,_,_,_,_,_,_,_,_,_,_,_⟩:=bc6 BI.out) | ((with_reducible refine gD_ 9 rfl ?_);refine Kd.R_lit (Kd.int .i64) _ 2 ?hg (N:=9) ?hd (xs:=[t]) (inner:=[.int .i64 t]) (ok:=fun _ => True) (okp:=fun _ => True) ?hr ?hp (fun _ hk => hk) trivial (Below.refl _ _) (Nat.le_refl _) (by simp) ?_;(case hd => rfl);(case hg => rfl);(case hr => first | (go_simp;done) | (go_simp;rfl));(case hp => exact repsG_ _);intro vL wL hoL hb hg hn;clear hg hn;obtain ⟨A9,c9,eL⟩:=Kd.R_slice hoL;subst eL;have RL9:=Z_ (Kd.R_reads' hoL);clear hoL;replace BI:=Z_ (bB_ (by repeat (first | exact BI.out | apply bN_ | apply bD_)) hb);replace HB:=Z_ (lP_ (by repeat (first | exact HB.out | apply lN_ | apply lD_)) hb);clear hb;obtain ⟨_,_,_,_,_,_,_,_,_,_,_,_⟩:=bc6 BI.out) | (go_at_call 52;refine (impl_faultOf.calls k A9 c9 [t] 0 _ RL9.out.2.2 RL9.out.2.1 HF1.out).mono ?_;rintro e w9_ ⟨rfl,⟨nd,rfl⟩⟩) | (go_at_call 54;refine (impl_Net_gatesFault.calls k p A0 A1 A2 A3 A4 A5 c0 c1 c2 c3 c4 c5 lb.length lh.length lv.length lw.length lt lg u _ (by repeat (first | exact BI.out | apply bN_ | apply bD_)) (Kd.C_below a0.out (by repeat (first | exact HB.out | apply lN_ | apply lD_))) a1.out (Kd.C_below a2.out (by repeat (first | exact HB.out | apply lN_ | apply lD_))) HGF.out).mono ?_;rintro e w8_ ⟨rfl,hb⟩;replace BI:=Z_ (bB_ (by repeat (first | exact BI.out | apply bN_ | apply bD_)) hb);replace HB:=Z_ (lP_ (by repeat (first | exact HB.out | apply lN_ | apply lD_)) hb);clear hb;obtain ⟨_,_,_,_,_,_,_,_,_,_,_,_⟩:=bc6 BI.out))
  go_ret
  exact ⟨rfl,(by repeat (first | exact HB.out | apply lN_ | apply lD_))⟩
 rw [if_pos hz] at h
 subst hz
 obtain ⟨b,ht,h⟩:=Option.bind_eq_some_iff.mp h
 have HBF:=Z_ ht
 clear ht
 obtain ⟨n,ht,h⟩:=Option.bind_eq_some_iff.mp h
 have HKF:=Z_ ht
 clear ht
 obtain ⟨v,ht,h⟩:=Option.bind_eq_some_iff.mp h
 have HF2:=Z_ ht
 clear ht
 have H:=Z_ h
 clear h
 go_enter Tryz.func27,Tryz.ntmps27
 go_wp2_with (first | ((with_reducible refine gD_ 1 rfl ?_);refine bx_ #[.slice A0 lt.length c0,.slice A1 lg.length c1,.slice A2 lb.length c2,.slice A3 lh.length c3,.slice A4 lv.length c4,.slice A5 lw.length c5] 34 ?_;intro p hg1 w1 hbox hb;have n1_:=Z_ (lP_ HB.out hb);have BI:=Z_ hbox;have SP:=Z_ ((by rw [hg1];exact (below_size HB.out) : w.heap.size ≤ p));clear HB hbox hb hg1;have HB:=n1_;clear n1_;obtain ⟨_,_,_,_,_,_,_,_,_,_,_,_⟩:=bc6 BI.out) | (go_at_call 53;refine (impl_TermsFault.calls A0 c0 lt t _ (Kd.C_below a0.out (by repeat (first | exact HB.out | apply lN_ | apply lD_))) a1.out HTF.out).mono ?_;rintro e w7_ ⟨rfl,hb⟩;replace BI:=Z_ (bB_ (by repeat (first | exact BI.out | apply bN_ | apply bD_)) hb);replace HB:=Z_ (lP_ (by repeat (first | exact HB.out | apply lN_ | apply lD_)) hb);clear hb;obtain ⟨_,_,_,_,_,_,_,_,_,_,_,_⟩:=bc6 BI.out) | ((with_reducible refine gD_ 9 rfl ?_);refine Kd.R_lit (Kd.int .i64) _ 2 ?hg (N:=9) ?hd (xs:=[t]) (inner:=[.int .i64 t]) (ok:=fun _ => True) (okp:=fun _ => True) ?hr ?hp (fun _ hk => hk) trivial (Below.refl _ _) (Nat.le_refl _) (by simp) ?_;(case hd => rfl);(case hg => rfl);(case hr => first | (go_simp;done) | (go_simp;rfl));(case hp => exact repsG_ _);intro vL wL hoL hb hg hn;clear hg hn;obtain ⟨A9,c9,eL⟩:=Kd.R_slice hoL;subst eL;have RL9:=Z_ (Kd.R_reads' hoL);clear hoL;replace BI:=Z_ (bB_ (by repeat (first | exact BI.out | apply bN_ | apply bD_)) hb);replace HB:=Z_ (lP_ (by repeat (first | exact HB.out | apply lN_ | apply lD_)) hb);clear hb;obtain ⟨_,_,_,_,_,_,_,_,_,_,_,_⟩:=bc6 BI.out) | (go_at_call 52;refine (impl_faultOf.calls k A9 c9 [t] 0 _ RL9.out.2.2 RL9.out.2.1 HF1.out).mono ?_;rintro e w9_ ⟨rfl,⟨nd,rfl⟩⟩) | (go_at_call 54;refine (impl_Net_gatesFault.calls k p A0 A1 A2 A3 A4 A5 c0 c1 c2 c3 c4 c5 lb.length lh.length lv.length lw.length lt lg 0 _ (by repeat (first | exact BI.out | apply bN_ | apply bD_)) (Kd.C_below a0.out (by repeat (first | exact HB.out | apply lN_ | apply lD_))) a1.out (Kd.C_below a2.out (by repeat (first | exact HB.out | apply lN_ | apply lD_))) HGF.out).mono ?_;rintro e w8_ ⟨rfl,hb⟩;replace BI:=Z_ (bB_ (by repeat (first | exact BI.out | apply bN_ | apply bD_)) hb);replace HB:=Z_ (lP_ (by repeat (first | exact HB.out | apply lN_ | apply lD_)) hb);clear hb;obtain ⟨_,_,_,_,_,_,_,_,_,_,_,_⟩:=bc6 BI.out))
 replace BI:=Z_ (bD_ BI.out)
 replace HB:=Z_ (lD_ HB.out)
 skip
 refine start_ (n:=11) (S:=fun w' => w'.cell? ⟨p,0,none⟩ = some (.slice A0 lt.length c0) ∧ w'.cell? ⟨p,2,none⟩ = some (.slice A2 lb.length c2) ∧ w'.cell? ⟨p,3,none⟩ = some (.slice A3 lh.length c3)) (ds:=[]) (Bt 11 0) (by kernel_rfl) rfl rfl ⟨(blk_cell BI.out 0).trans rfl,(blk_cell BI.out 2).trans rfl,(blk_cell BI.out 3).trans rfl⟩ (fun hHeld => ?_)
 generalize World.drew _ = wD at BI HB hHeld ⊢
 refine pu_ 0 (some 18) (Bt 11 1) (by kernel_rfl) ?_
 refine ta_ 1 (some 19) (Bt 11 3) (by kernel_rfl) hHeld ?_
 refine pu_ 3 (some 21) (Bt 11 11) (by kernel_rfl) ?_
 refine ta_ 4 (some 22) (Bt 11 27) (by kernel_rfl) hHeld ?_
 refine pu_ 5 (some 23) (Bt 11 59) (by kernel_rfl) ?_
 refine ta_ 6 (some 24) (Bt 11 123) (by kernel_rfl) hHeld ?_
 refine one_ (i:=2) (N:=some 20) (Bt 11 127) rfl rfl (by kernel_rfl) (by decide) (fun K hK => ?_)
 refine goes_ Tryz.func55 (by kernel_rfl) rfl #[.slice A2 lb.length c2] (by rfl) rfl rfl (by (try simp only [List.map_toArray,List.map_cons,List.map_nil]);first | done | rfl) ?_
 refine (impl_brokenFault.calls k A2 c2 lb b _ (Kd.C_below aa.out HB.out) ab.out HBF.out).mono ?_
 rintro e w20 ⟨rfl,⟨nd,rfl⟩⟩
 refine ⟨_,rfl,?_⟩
 replace BI:=Z_ (show (World.drewN _ nd).heap[p]? = _ from (by repeat (first | exact BI.out | apply bN_ | apply bD_)))
 replace HB:=Z_ (lN_ (n:=nd) HB.out)
 refine hK.out _ _ ⟨(blk_cell BI.out 0).trans rfl,(blk_cell BI.out 2).trans rfl,(blk_cell BI.out 3).trans rfl⟩ (fun hHeld => ?_)
 clear hK K
 refine norm_ (a':=?_) ?_ ?_
 rotate_left
 ·show Act.put _ (some 20) _ = _
  simp only [Act.put,lA_,lZ_,lS_,i64_w,i32_w]
  rfl
 refine one_ (i:=7) (N:=some 25) (Bt 11 255) rfl rfl (by kernel_rfl) (by decide) (fun K hK => ?_)
 refine goes_ Tryz.func56 (by kernel_rfl) rfl #[.slice A0 lt.length c0,.slice A3 lh.length c3] (by rfl) rfl rfl (by (try simp only [List.map_toArray,List.map_cons,List.map_nil]);first | done | rfl) ?_
 refine (impl_KnownFault.calls k A0 c0 lt A3 c3 lh n _ (Kd.C_below a0.out HB.out) a1.out (Kd.C_below ac.out HB.out) ad.out HKF.out).mono ?_
 rintro e w25 ⟨rfl,hb⟩
 refine ⟨_,rfl,?_⟩
 have n0_:=Z_ (bB_ BI.out hb)
 have n2_:=Z_ (lP_ HB.out hb)
 clear BI HB hb
 have BI:=n0_
 have HB:=n2_
 clear n0_ n2_
 refine hK.out _ _ ⟨(blk_cell BI.out 0).trans rfl,(blk_cell BI.out 2).trans rfl,(blk_cell BI.out 3).trans rfl⟩ (fun hHeld => ?_)
 clear hK K
 refine norm_ (a':=?_) ?_ ?_
 rotate_left
 ·show Act.put _ (some 25) _ = _
  simp only [Act.put,lA_,lZ_,lS_,i64_w,i32_w]
  rfl
 refine one_ (i:=8) (N:=some 26) (Bt 11 511) rfl rfl (by kernel_rfl) (by decide) (fun K hK => ?_)
 refine Kd.R_lit_step (Kd.int .i64) _ 2 ?hg (N:=26) ?hd (xs:=[b,n]) (inner:=[.int .i64 b,.int .i64 n]) (ok:=fun _ => True) (okp:=fun _ => True) ?hr ?hp (fun _ hk => hk) trivial (Below.refl _ _) (Nat.le_refl _) (by simp) ?_;(case hd => rfl);(case hg => rfl);(case hr => first | (go_simp;done) | (go_simp;rfl));(case hp => exact repsG_ _)
 intro vL wL hoL hb hg_ hnew_
 clear hg_ hnew_
 obtain ⟨a9,c26,eL⟩:=Kd.R_slice hoL
 subst eL
 have RL26:=Z_ (Kd.R_reads' hoL)
 clear hoL
 have n0_:=Z_ (bB_ BI.out hb)
 have n2_:=Z_ (lP_ HB.out hb)
 clear BI HB hb
 have BI:=n0_
 have HB:=n2_
 clear n0_ n2_
 refine hK.out _ _ ⟨(blk_cell BI.out 0).trans rfl,(blk_cell BI.out 2).trans rfl,(blk_cell BI.out 3).trans rfl⟩ (fun hHeld => ?_)
 clear hK K
 refine norm_ (a':=?_) ?_ ?_
 rotate_left
 ·show Act.put _ (some 26) _ = _
  simp only [Act.put,lA_,lZ_,lS_,i64_w,i32_w]
  rfl
 refine one_ (i:=9) (N:=some 27) (Bt 11 1023) rfl rfl (by kernel_rfl) (by decide) (fun K hK => ?_)
 refine goes_ Tryz.func52 (by kernel_rfl) rfl #[.slice a9 2 c26] (by rfl) rfl rfl (by (try simp only [List.map_toArray,List.map_cons,List.map_nil]);first | done | rfl) ?_
 refine (impl_faultOf.calls k a9 c26 [b,n] v _ RL26.out.2.2 RL26.out.2.1 HF2.out).mono ?_
 rintro e w27 ⟨rfl,⟨nd,rfl⟩⟩
 refine ⟨_,rfl,?_⟩
 replace BI:=Z_ (show (World.drewN _ nd).heap[p]? = _ from (by repeat (first | exact BI.out | apply bN_ | apply bD_)))
 replace HB:=Z_ (lN_ (n:=nd) HB.out)
 refine hK.out _ _ ⟨(blk_cell BI.out 0).trans rfl,(blk_cell BI.out 2).trans rfl,(blk_cell BI.out 3).trans rfl⟩ (fun hHeld => ?_)
 clear hK K
 refine norm_ (a':=?_) ?_ ?_
 rotate_left
 ·show Act.put _ (some 27) _ = _
  simp only [Act.put,lA_,lZ_,lS_,i64_w,i32_w]
  rfl
 refine pu_ 10 (some 5) (Bt 11 2047) (by kernel_rfl) ?_
 refine done_ (by kernel_rfl) ?_
 obtain ⟨_,_,_,_,_,_,_,_,_,_,_,_⟩:=bc6 BI.out
 have h:=H.out
 clear H
 by_cases hz : v = 0
 rotate_left
 ·rw [if_neg hz] at h
  obtain rfl:=Option.some.inj h
  have hz0 : (v == 0) = false:=by simpa using hz
  have hz1 : (v != 0) = true:=by simpa using hz
  clear hz
  go_wp2
  go_ret
  exact ⟨rfl,HB.out⟩
 rw [if_pos hz] at h
 subst hz
 obtain ⟨ws,ht,h⟩:=Option.bind_eq_some_iff.mp h
 have HCC:=Z_ ht
 clear ht
 obtain ⟨bb,hbb⟩ : ∃ bb,ws.any (gvBad lt lg) = bb:=⟨_,rfl⟩
 rw [hbb] at h
 have HA:=Z_ hbb
 clear hbb
 cases bb with
 | true =>
  obtain rfl:=Option.some.inj h
  go_wp2_with (first | ((with_reducible refine gD_ 35 rfl ?_);refine Kd.R_lit svK _ 32 ?hg (N:=35) ?hd (xs:=[(A4,lv.length,c4),(A5,lw.length,c5)]) (inner:=[.slice A4 lv.length c4,.slice A5 lw.length c5]) (ok:=fun _ => True) (okp:=fun _ => True) ?hr ?hp (fun _ hk => hk) trivial (Below.refl _ _) (Nat.le_refl _) (by simp) ?_;(case hd => rfl);(case hg => rfl);(case hr => first | (go_simp;done) | (go_simp;rfl));(case hp => exact sv_reps _);intro vL wL hoL hb hg hn;clear hg hn;obtain ⟨a3,c35,eL⟩:=Kd.R_slice hoL;subst eL;have RL35:=Z_ (Kd.R_reads' hoL);clear hoL;replace BI:=Z_ (bB_ (by repeat (first | exact BI.out | apply bN_ | apply bD_)) hb);replace HB:=Z_ (lP_ (by repeat (first | exact HB.out | apply lN_ | apply lD_)) hb);clear hb;obtain ⟨_,_,_,_,_,_,_,_,_,_,_,_⟩:=bc6 BI.out) | (go_at_call 58;refine (impl_Given_58.calls a3 c35 [lv,lw] ws _ (sv_two RL35.out.2.2 (Kd.C_below a5.out (by repeat (first | exact HB.out | apply lN_ | apply lD_))) a6.out (Kd.C_below a7.out (by repeat (first | exact HB.out | apply lN_ | apply lD_))) a8.out) RL35.out.2.1 HCC.out).mono ?_;rintro e w36_ ⟨v36,rfl,ho36,hb⟩;obtain ⟨a4,c36,e36⟩:=Kd.R_slice ho36;subst e36;have RC:=Z_ (Kd.R_reads' ho36);clear ho36;replace BI:=Z_ (bB_ (by repeat (first | exact BI.out | apply bN_ | apply bD_)) hb);replace HB:=Z_ (lP_ (by repeat (first | exact HB.out | apply lN_ | apply lD_)) hb);clear hb;obtain ⟨_,_,_,_,_,_,_,_,_,_,_,_⟩:=bc6 BI.out) | (go_at_call 57;refine (slices_ContainsFunc_Gv.calls 59 #[.pointer (some ⟨p,0,none⟩)] (gvBad lt lg) a4 c36 ws _ (enters_of Tryz.func59 (by kernel_rfl) rfl) (fun W x _ hB => (impl_NetFault_1.calls p A0 A1 A2 A3 A4 A5 c0 c1 c2 c3 c4 c5 lb.length lh.length lv.length lw.length lt lg x W (hB.block p (blk_lt BI.out) |>.trans BI.out) (Kd.C_below a0.out (lP_ HB.out hB)) (Kd.C_below a2.out (lP_ HB.out hB))).mono (fun _ _ h => ⟨h.1,lP_ hB h.2⟩)) RC.out.2.2 RC.out.2.2.2.1).mono ?_;rintro e w38_ ⟨he,hb⟩;rw [HA.out] at he;subst he;replace BI:=Z_ (bB_ (by repeat (first | exact BI.out | apply bN_ | apply bD_)) hb);replace HB:=Z_ (lP_ (by repeat (first | exact HB.out | apply lN_ | apply lD_)) hb);clear hb;obtain ⟨_,_,_,_,_,_,_,_,_,_,_,_⟩:=bc6 BI.out))
  go_ret
  exact ⟨rfl,(by repeat (first | exact HB.out | apply lN_ | apply lD_))⟩
 | false =>
  obtain rfl:=Option.some.inj h
  go_wp2_with (first | ((with_reducible refine gD_ 35 rfl ?_);refine Kd.R_lit svK _ 32 ?hg (N:=35) ?hd (xs:=[(A4,lv.length,c4),(A5,lw.length,c5)]) (inner:=[.slice A4 lv.length c4,.slice A5 lw.length c5]) (ok:=fun _ => True) (okp:=fun _ => True) ?hr ?hp (fun _ hk => hk) trivial (Below.refl _ _) (Nat.le_refl _) (by simp) ?_;(case hd => rfl);(case hg => rfl);(case hr => first | (go_simp;done) | (go_simp;rfl));(case hp => exact sv_reps _);intro vL wL hoL hb hg hn;clear hg hn;obtain ⟨a3,c35,eL⟩:=Kd.R_slice hoL;subst eL;have RL35:=Z_ (Kd.R_reads' hoL);clear hoL;replace BI:=Z_ (bB_ (by repeat (first | exact BI.out | apply bN_ | apply bD_)) hb);replace HB:=Z_ (lP_ (by repeat (first | exact HB.out | apply lN_ | apply lD_)) hb);clear hb;obtain ⟨_,_,_,_,_,_,_,_,_,_,_,_⟩:=bc6 BI.out) | (go_at_call 58;refine (impl_Given_58.calls a3 c35 [lv,lw] ws _ (sv_two RL35.out.2.2 (Kd.C_below a5.out (by repeat (first | exact HB.out | apply lN_ | apply lD_))) a6.out (Kd.C_below a7.out (by repeat (first | exact HB.out | apply lN_ | apply lD_))) a8.out) RL35.out.2.1 HCC.out).mono ?_;rintro e w36_ ⟨v36,rfl,ho36,hb⟩;obtain ⟨a4,c36,e36⟩:=Kd.R_slice ho36;subst e36;have RC:=Z_ (Kd.R_reads' ho36);clear ho36;replace BI:=Z_ (bB_ (by repeat (first | exact BI.out | apply bN_ | apply bD_)) hb);replace HB:=Z_ (lP_ (by repeat (first | exact HB.out | apply lN_ | apply lD_)) hb);clear hb;obtain ⟨_,_,_,_,_,_,_,_,_,_,_,_⟩:=bc6 BI.out) | (go_at_call 57;refine (slices_ContainsFunc_Gv.calls 59 #[.pointer (some ⟨p,0,none⟩)] (gvBad lt lg) a4 c36 ws _ (enters_of Tryz.func59 (by kernel_rfl) rfl) (fun W x _ hB => (impl_NetFault_1.calls p A0 A1 A2 A3 A4 A5 c0 c1 c2 c3 c4 c5 lb.length lh.length lv.length lw.length lt lg x W (hB.block p (blk_lt BI.out) |>.trans BI.out) (Kd.C_below a0.out (lP_ HB.out hB)) (Kd.C_below a2.out (lP_ HB.out hB))).mono (fun _ _ h => ⟨h.1,lP_ hB h.2⟩)) RC.out.2.2 RC.out.2.2.2.1).mono ?_;rintro e w38_ ⟨he,hb⟩;rw [HA.out] at he;subst he;replace BI:=Z_ (bB_ (by repeat (first | exact BI.out | apply bN_ | apply bD_)) hb);replace HB:=Z_ (lP_ (by repeat (first | exact HB.out | apply lN_ | apply lD_)) hb);clear hb;obtain ⟨_,_,_,_,_,_,_,_,_,_,_,_⟩:=bc6 BI.out))
  go_ret
  exact ⟨rfl,(by repeat (first | exact HB.out | apply lN_ | apply lD_))⟩
end Go.Proofs.YtcafikgabidphaaGreat.G
namespace Go.Proofs.YtcafikgabidphaaGreat.G
open Go.RowKit Go.Proofs.YtcafikgabidphaaGreatW.PrintWords Go.Proofs.YtcafikgabidphaaGreatW.PrintLast Go.Proofs.YtcafikgabidphaaGreatW.PrintMore
attribute [local go_sem] max2_int min2_int max_two min_two max_three min_three max_four min_four   -- for this text's walks alone
set_option linter.unusedVariables false
set_option linter.unusedSimpArgs false
def impl_flags.l0 : Nat → List Bool → List Int → Int → Int → Option (List Bool)
 | 0,_,_,_,_ => none
 | k + 1,x5,x11,x12,x13 => if x13 < x12 then (if 0 ≤ x13 then (if x13 < (x11.length : Int) then (if 0 ≤ (rd x11 x13) then (if (rd x11 x13) < (x5.length : Int) then (impl_flags.l0 k (x5.set ((rd x11 x13) : Int).toNat true) x11 x12 (wrap64 (x13 + 1))) else (none)) else (none)) else (none)) else (none)) else (some x5)
def impl_flags.f (k : Nat) (l0 : List (S83)) (l1 : List Int) : Option (List Bool):=if 0 ≤ (l0.length : Int) then (if ((l0.length : Int) : Int).toNat ≤ 281474976710656 then (impl_flags.l0 k (List.replicate ((l0.length : Int) : Int).toNat false) l1 (l1.length : Int) 0) else (none)) else (none)
set_option maxHeartbeats 8000000 in
set_option maxRecDepth 100000 in
theorem impl_flags.calls (k : Nat) (A0 : Option Addr) (c0 : Nat) (l0 : List (S83)) (A1 : Option Addr) (c1 : Nat) (l1 : List Int) (r : List Bool) (w : World) (hr0 : Kd.C k83 w A0 l0.length l0) (hc0 : l0.length ≤ c0) (hr1 : Kd.C (Kd.int .i64) w A1 l1.length l1) (hc1 : l1.length ≤ c1) (h : impl_flags.f k l0 l1 = some r) :
  Calls Tryz.prog 69 #[.slice A0 l0.length c0,.slice A1 l1.length c1] w fun e w' => ∃ v0_ : Value,e = .returned (v0_) ∧ Kd.R Kd.bool 4 w' w.heap.size (fun _ => True) v0_ r ∧ Below w.heap.size w w':=by
 have a8:=Z_ hr0
 have a9:=Z_ hc0
 clear hr0 hc0
 have a7:=Z_ hr1
 have aa:=Z_ hc1
 clear hr1 hc1
 have HB:=Z_ (Below.refl w.heap.size w)
 unfold impl_flags.f at h
 have H:=h
 clear h
 replace H:=iN_ H
 obtain ⟨c3,H⟩:=H
 have c3b0:=eq_true c3
 have c3b1 : decide (0 ≤ (l0.length : Int)) = true:=decide_eq_true c3
 clear c3
 replace H:=iN_ H
 obtain ⟨c4,H⟩:=H
 have c4b0:=eq_true c4
 have c4b1 : decide (((l0.length : Int) : Int).toNat ≤ 281474976710656) = true:=decide_eq_true c4
 clear c4
 obtain ⟨y399,hy399⟩ : ∃ y_ : List Bool,y_ = (List.replicate ((l0.length : Int) : Int).toNat false):=⟨_,rfl⟩
 replace H : (impl_flags.l0 k y399 l1 (l1.length : Int) 0) = some r:=by first | (rw [hy399];with_reducible exact H) | (have H2_:=(Option.bind_some _ _).symm.trans H;rw [hy399];with_reducible exact H2_) | (have H2_:=(Option.bind_some _ _).symm.trans H;with_reducible exact H2_) | with_reducible exact H | (rw [hy399];exact H) | exact H
 have a1:=Z_ hy399
 clear hy399
 have H':=Z_ H
 clear H
 go_enter Tryz.func69,Tryz.ntmps69
 go_wp2_with (first | ((with_reducible refine gD_ 10 rfl ?_);refine Kd.R_make Kd.bool _ 4 rfl (N:=10) rfl 57 _ _ rfl (l0.length : Int) rfl rfl Tryz.underlying57 (.bool false) 1 info4 rfl (by decide) (by omega) false (ok:=fun _ => True) (okp:=fun _ => True) rfl (fun _ hk => hk) trivial (dA_) (Nat.le_trans (Nat.mul_le_mul_right _ (dA_ : (l0.length : Int).toNat ≤ 281474976710656)) (by omega)) (Below.refl _ _) (Nat.le_refl _) ?_;intro v400 w5 ho6 hb hg_ hnew_;clear hg_ hnew_;(first | rw [← a1.out] at ho6 | (simp only [Int.reduceToNat] at ho6;rw [← a1.out] at ho6));have a3:=Z_ (Kd.R_lower ho6 (below_size HB.out));replace HB:=Z_ (lP_ HB.out hb);clear hb ho6))
 go_loopg [13] k (fun kq v13 w' => ∃ (x5_1 : List Bool) (x13_1 : Int),v13 = .int .i64 x13_1 ∧ Aside0 (impl_flags.l0 kq x5_1 l1 (l1.length : Int) x13_1 = some r) ∧ Aside0 (kq ≤ k) ∧ Aside0 (Kd.R Kd.bool 4 w' w.heap.size (fun _ => True) v400 x5_1) ∧ Aside0 (Below w.heap.size w w'))
 case atStart => exact ⟨(y399),(0),Sr_,H',⟨Nat.le_refl _⟩,⟨Rk_ a3⟩,⟨Lb_⟩⟩
 case round =>
  clear H'
  try clear c1
  try clear p2
  try clear c3
  try clear c3b0
  try clear c3b1
  try clear c4
  try clear c4b0
  try clear c4b1
  try clear c6
  obtain ⟨x5_1,x13_1,rfl,HA,HK1,a0,HB⟩:=hrel
  cases gk with
  | zero => exact absurd HA.out (by simp [impl_flags.l0])
  | succ k1 =>
   have H:=HA.out
   clear HA
   simp only [impl_flags.l0] at H
   replace H:=iD_ H
   obtain ⟨c7b0,H⟩ | ⟨c7b0,H⟩:=H
   rotate_left
   ·obtain rfl:=Option.some.inj H
    go_wp2
    go_ret
    exact ⟨_,Er_,Rk_ a0,Lb_⟩
   rotate_right
   replace H:=iM_ H
   obtain ⟨c8b0,H⟩:=H
   replace H:=iM_ H
   obtain ⟨c9b0,H⟩:=H
   replace H:=iM_ H
   obtain ⟨c10b0,H⟩:=H
   replace H:=iM_ H
   obtain ⟨c11b0,H⟩:=H
   obtain ⟨y403,hy403⟩ : ∃ y_ : List Bool,y_ = (x5_1.set ((rd l1 x13_1) : Int).toNat true):=⟨_,rfl⟩
   replace H : (impl_flags.l0 k1 y403 l1 (l1.length : Int) (wrap64 (x13_1 + 1))) = some r:=by first | (rw [hy403];with_reducible exact H) | (have H2_:=(Option.bind_some _ _).symm.trans H;rw [hy403];with_reducible exact H2_) | (have H2_:=(Option.bind_some _ _).symm.trans H;with_reducible exact H2_) | with_reducible exact H | (rw [hy403];exact H) | exact H
   have a4:=Z_ hy403
   clear hy403
   have H':=Z_ H
   clear H
   have p402 : 0 ≤ (x13_1 : Int):=dA_
   have q402 : x13_1 < (l1.length : Int):=dA_
   obtain ⟨ad402,e402,hx402_0⟩:=Kd.at_int a7.out x13_1 p402 q402
   cases e402
   replace hx402_0:=cB_ HB hx402_0
   replace p402:=eq_true p402
   replace q402:=eq_true q402
   have p12 : 0 ≤ ((rd l1 x13_1) : Int):=dA_
   have q12 : ((rd l1 x13_1) : Int) < ((x5_1.length : Int) : Int):=dA_
   obtain ⟨go12,a5,eo12,a2,gl12,cl12,HG12⟩:=Kd.R_form a0.out (by omega)
   (first | cases eo12 | (injection eo12 with ea_ en_ ec_;(first | subst ea_ | (injection ea_ with ea_;subst ea_));subst ec_;clear en_))
   have a6:=Z_ a2
   have GG12:=Z_ HG12
   clear a2 gl12 HG12
   obtain ⟨hx12_0,hf12_0⟩:=Kd.R_celln false a0.out ((rd l1 x13_1) : Int) p12 q12
   replace p12:=eq_true p12
   replace q12:=eq_true q12
   have HP13:=Kd.R_putg a0.out ((rd l1 x13_1) : Int) true
   go_wp2_with (first | ((with_reducible refine gate_store (t:=4) (p:=19) rfl ?_);refine store_event (t:=4) (p:=19) (v:=?vo_w14) (w1:=(wr.setCell ⟨go12,((rd l1 x13_1) : Int).toNat,none⟩ (.bool true))) ?hg ?ho ?hn ?hr ?_;(case ho => rfl);(case hg => rfl);(case hn => rfl);(case hr => first | (go_simp;done) | (go_simp;rfl));intro w14 hw;have hg : wr.grownBy w14 (some go12):=(by rw [hw];exact HP13.2);have hp_ : Kd.R Kd.bool 4 w14 w.heap.size (fun _ => True) (.slice (some ⟨go12,0,none⟩) x5_1.length a5) y403:=(by rw [hw,a4.out];exact HP13.1);clear HP13;replace a0:=Z_ (hp_);replace HB:=Z_ ((by rw [hw];exact lS1_ (HB.out) a6.out : Below w.heap.size w w14));clear hg hw hp_))
   go_roundg k1
   case measure => have:=HK1.out;omega
   case rel => exact ⟨(y403),(wrap64 (x13_1 + 1)),Sr_,H',⟨by have:=HK1.out;omega⟩,⟨Rk_ a0⟩,⟨Lb_⟩⟩
def slices_Index_int64_int64.l0 : Nat → List Int → Int → Int → Int → Option (Int)
 | 0,_,_,_,_ => none
 | k + 1,x0,x1,x7,x8 => if x8 < x7 then (if 0 ≤ x8 then (if x8 < (x0.length : Int) then (if x1 = (rd x0 x8) then (some x8) else (slices_Index_int64_int64.l0 k x0 x1 x7 (wrap64 (x8 + 1)))) else (none)) else (none)) else (some (-1))
def slices_Index_int64_int64.f (k : Nat) (l0 : List Int) (a1 : Int) : Option (Int):=slices_Index_int64_int64.l0 k l0 a1 (l0.length : Int) 0
set_option maxHeartbeats 8000000 in
set_option maxRecDepth 100000 in
theorem slices_Index_int64_int64.calls (k : Nat) (A0 : Option Addr) (c0 : Nat) (l0 : List Int) (a1 r : Int) (w : World) (hr0 : Kd.C (Kd.int .i64) w A0 l0.length l0) (hc0 : l0.length ≤ c0) (h : slices_Index_int64_int64.f k l0 a1 = some r) :
  Calls Tryz.prog 90 #[.slice A0 l0.length c0,.int .i64 a1] w fun e w' => e = .returned (.int .i64 r) ∧ Drawn0 w w':=by
 have HR0:=Z_ hr0
 have HC0:=Z_ hc0
 clear hr0 hc0
 unfold slices_Index_int64_int64.f at h
 have H:=h
 clear h
 have H':=Z_ H
 clear H
 go_enter Tryz.func90,Tryz.ntmps90
 go_wp2
 go_loopg [8] k (fun kq v8 w' => ∃ (x8_1 : Int),v8 = .int .i64 x8_1 ∧ Aside0 (slices_Index_int64_int64.l0 kq l0 a1 (l0.length : Int) x8_1 = some r) ∧ Aside0 (kq ≤ k) ∧ Drawn0 w w')
 case atStart => exact ⟨(0),Sr_,H',⟨Nat.le_refl _⟩,by repeat (first | exact Drawn0.refl _ | apply Drawn0.step)⟩
 case round =>
  clear H'
  try clear p2
  obtain ⟨x8_1,rfl,HA,HK1,⟨m1,rfl⟩⟩:=hrel
  cases gk with
  | zero => exact absurd HA.out (by simp [slices_Index_int64_int64.l0])
  | succ k1 =>
   have H:=HA.out
   clear HA
   simp only [slices_Index_int64_int64.l0] at H
   replace H:=iD_ H
   obtain ⟨c3b0,H⟩ | ⟨c3b0,H⟩:=H
   rotate_left
   ·obtain rfl:=Option.some.inj H
    go_wp2
    go_ret
    exact ⟨by first | rfl | (simp;done) | (simp [*];done),by repeat (first | exact Drawn0.refl _ | apply Drawn0.step)⟩
   rotate_right
   replace H:=iM_ H
   obtain ⟨c4b0,H⟩:=H
   replace H:=iM_ H
   obtain ⟨c5b0,H⟩:=H
   replace H:=iE_ H
   obtain ⟨c6b0,c6b1,H⟩ | ⟨c6b0,c6b1,H⟩:=H
   ·obtain rfl:=Option.some.inj H
    have p404 : 0 ≤ (x8_1 : Int):=dA_
    have q404 : x8_1 < (l0.length : Int):=dA_
    obtain ⟨ad404,e404,hx404_0⟩:=Kd.at_int HR0.out x8_1 p404 q404
    cases e404
    replace p404:=eq_true p404
    replace q404:=eq_true q404
    go_wp2
    go_ret
    exact ⟨by first | rfl | (simp;done) | (simp [*];done),by repeat (first | exact Drawn0.refl _ | apply Drawn0.step)⟩
   have H':=Z_ H
   clear H
   have p404 : 0 ≤ (x8_1 : Int):=dA_
   have q404 : x8_1 < (l0.length : Int):=dA_
   obtain ⟨ad404,e404,hx404_0⟩:=Kd.at_int HR0.out x8_1 p404 q404
   cases e404
   replace p404:=eq_true p404
   replace q404:=eq_true q404
   go_wp2
   go_roundg k1
   case measure => have:=HK1.out;omega
   case rel => exact ⟨(wrap64 (x8_1 + 1)),Sr_,H',⟨by have:=HK1.out;omega⟩,by repeat (first | exact Drawn0.refl _ | apply Drawn0.step)⟩
def slices_Contains_int64_int64.f (k : Nat) (l0 : List Int) (a1 : Int) : Option (Bool):=(slices_Index_int64_int64.f k l0 a1).bind fun t405 => (some (decide (t405 ≥ 0)))
set_option maxHeartbeats 8000000 in
set_option maxRecDepth 100000 in
theorem slices_Contains_int64_int64.calls (k : Nat) (A0 : Option Addr) (c0 : Nat) (l0 : List Int) (a1 : Int) (r : Bool) (w : World) (hr0 : Kd.C (Kd.int .i64) w A0 l0.length l0) (hc0 : l0.length ≤ c0) (h : slices_Contains_int64_int64.f k l0 a1 = some r) :
  Calls Tryz.prog 70 #[.slice A0 l0.length c0,.int .i64 a1] w fun e w' => e = .returned (.bool r) ∧ Drawn0 w w':=by
 have HR0:=Z_ hr0
 have HC0:=Z_ hc0
 clear hr0 hc0
 unfold slices_Contains_int64_int64.f at h
 have H:=h
 clear h
 replace H:=bS_ H
 obtain ⟨t405,A3,H⟩:=H
 obtain rfl:=Option.some.inj H
 go_enter Tryz.func70,Tryz.ntmps70
 go_wp2_with (first | ((with_reducible refine gate_callee (f:=90) rfl ?_);refine goesA_ (some 7) rfl rfl Tryz.func90 (by kernel_rfl) rfl #[.slice A0 l0.length c0,.int .i64 a1] rfl ?_;(with_reducible refine (slices_Index_int64_int64.calls k _ _ l0 a1 t405 _ ?side1 ?side2 A3.out).mono ?_);(case side1 => repeat (first | exact HR0.out | (with_reducible refine Kd.C_alloc ?_ _) | (with_reducible refine Kd.C_drewN ?_ _) | (with_reducible refine Kd.C_drew ?_)));(case side2 => exact HC0.out);rintro e w' ⟨rfl,⟨nd,rfl⟩⟩;refine ⟨_,rfl,?_⟩))
 go_ret
 exact ⟨by first | rfl | (simp;done) | (simp [*];done),by repeat (first | exact Drawn0.refl _ | apply Drawn0.step)⟩
def impl_risen.l0 : Nat → List Int → List Bool → Int → Int → Option (List Int)
 | 0,_,_,_,_ => none
 | k + 1,x3,x7,x8,x9 => if x9 < x8 then (if 0 ≤ x9 then (if x9 < (x7.length : Int) then (if rdOf false x7 x9 = true then (if x3.length < 17592186044416 then (impl_risen.l0 k (x3 ++ [x9]) x7 x8 (wrap64 (x9 + 1))) else (none)) else (impl_risen.l0 k x3 x7 x8 (wrap64 (x9 + 1)))) else (none)) else (none)) else (some x3)
def impl_risen.f (k : Nat) (l0 : List Bool) : Option (List Int):=impl_risen.l0 k (([] : List Int)) l0 (l0.length : Int) 0
set_option maxHeartbeats 8000000 in
set_option maxRecDepth 100000 in
theorem impl_risen.calls (k : Nat) (A0 : Option Addr) (c0 : Nat) (l0 : List Bool) (r : List Int) (w : World) (hr0 : Kd.C Kd.bool w A0 l0.length l0) (hc0 : l0.length ≤ c0) (h : impl_risen.f k l0 = some r) :
  Calls Tryz.prog 71 #[.slice A0 l0.length c0] w fun e w' => ∃ v0_ : Value,e = .returned (v0_) ∧ Kd.R (Kd.int .i64) 2 w' w.heap.size (fun _ => True) v0_ r ∧ Below w.heap.size w w':=by
 have a5:=Z_ hr0
 have a7:=Z_ hc0
 clear hr0 hc0
 have HB:=Z_ (Below.refl w.heap.size w)
 unfold impl_risen.f at h
 have H:=h
 clear h
 obtain ⟨y406,hy406⟩ : ∃ y_ : List Int,y_ = (([] : List Int)):=⟨_,rfl⟩
 replace H : (impl_risen.l0 k y406 l0 (l0.length : Int) 0) = some r:=by first | (rw [hy406];with_reducible exact H) | (have H2_:=(Option.bind_some _ _).symm.trans H;rw [hy406];with_reducible exact H2_) | (have H2_:=(Option.bind_some _ _).symm.trans H;with_reducible exact H2_) | with_reducible exact H | (rw [hy406];exact H) | exact H
 have a1:=Z_ hy406
 clear hy406
 have H':=Z_ H
 clear H
 go_enter Tryz.func71,Tryz.ntmps71
 go_wp2_with (first | ((with_reducible refine gD_ 6 rfl ?_);refine Kd.R_lit (Kd.int .i64) _ 2 ?hg (N:=6) ?hd (xs:=([] : List Int)) (inner:=[]) (ok:=fun _ => True) (okp:=fun _ => True) ?hr ?hp (fun _ hk => hk) trivial (Below.refl _ _) (Nat.le_refl _) (by simp) ?_;(case hd => rfl);(case hg => rfl);(case hr => first | (go_simp;done) | (go_simp;rfl));(case hp => exact (Reps.none _ _));intro v407 w2 ho3 hb hg_ hnew_;clear hg_ hnew_;(first | rw [← a1.out] at ho3 | (simp only [Int.reduceToNat] at ho3;rw [← a1.out] at ho3));have a2:=Z_ (Kd.R_lower ho3 (below_size HB.out));replace HB:=Z_ (lP_ HB.out hb);clear hb ho3))
 go_loopg [3,9] k (fun kq v3 v9 w' => ∃ (x3_1 : List Int) (x9_1 : Int),v9 = .int .i64 x9_1 ∧ Aside0 (impl_risen.l0 kq x3_1 l0 (l0.length : Int) x9_1 = some r) ∧ Aside0 (kq ≤ k) ∧ Aside0 (Kd.R (Kd.int .i64) 2 w' w.heap.size (fun _ => True) v3 x3_1) ∧ Aside0 (Below w.heap.size w w'))
 case atStart => exact ⟨(y406),(0),Sr_,H',⟨Nat.le_refl _⟩,⟨Rk_ a2⟩,⟨Lb_⟩⟩
 case round =>
  clear H'
  try clear p2
  obtain ⟨x3_1,x9_1,rfl,HA,HK1,a0,HB⟩:=hrel
  cases gk with
  | zero => exact absurd HA.out (by simp [impl_risen.l0])
  | succ k1 =>
   have H:=HA.out
   clear HA
   simp only [impl_risen.l0] at H
   replace H:=iD_ H
   obtain ⟨c4b0,H⟩ | ⟨c4b0,H⟩:=H
   rotate_left
   ·obtain rfl:=Option.some.inj H
    go_wp2
    go_ret
    exact ⟨_,Er_,Rk_ a0,Lb_⟩
   rotate_right
   replace H:=iM_ H
   obtain ⟨c5b0,H⟩:=H
   replace H:=iM_ H
   obtain ⟨c6b0,H⟩:=H
   obtain ⟨bq7,hbq7⟩ : ∃ b_ : Bool,b_ = (rdOf false l0 x9_1):=⟨_,rfl⟩
   replace H : (if bq7 = true then (if x3_1.length < 17592186044416 then (impl_risen.l0 k1 (x3_1 ++ [x9_1]) l0 (l0.length : Int) (wrap64 (x9_1 + 1))) else (none)) else (impl_risen.l0 k1 x3_1 l0 (l0.length : Int) (wrap64 (x9_1 + 1)))) = some r:=by rw [← hbq7] at H;exact H
   have Nbq7:=Z_ hbq7
   clear hbq7
   replace H:=iB_ H
   obtain ⟨rfl,H⟩ | ⟨rfl,H⟩:=H
   rotate_left
   ·have H':=Z_ H
    clear H
    have p409 : 0 ≤ (x9_1 : Int):=dA_
    have q409 : x9_1 < (l0.length : Int):=dA_
    obtain ⟨ad409,e409,hx409_0⟩:=Kd.at_bool a5.out x9_1 p409 q409
    (try rw [← Nbq7.out] at hx409_0)
    cases e409
    replace hx409_0:=cB_ HB hx409_0
    replace p409:=eq_true p409
    replace q409:=eq_true q409
    go_wp2
    go_roundg k1
    case measure => have:=HK1.out;omega
    case rel => exact ⟨(x3_1),(wrap64 (x9_1 + 1)),Sr_,H',⟨by have:=HK1.out;omega⟩,⟨Rk_ a0⟩,⟨Lb_⟩⟩
   rotate_right
   replace H:=iN_ H
   obtain ⟨c9,H⟩:=H
   have a6:=Z_ c9
   clear c9
   obtain ⟨y410,hy410⟩ : ∃ y_ : List Int,y_ = (x3_1 ++ [x9_1]):=⟨_,rfl⟩
   replace H : (impl_risen.l0 k1 y410 l0 (l0.length : Int) (wrap64 (x9_1 + 1))) = some r:=by first | (rw [hy410];with_reducible exact H) | (have H2_:=(Option.bind_some _ _).symm.trans H;rw [hy410];with_reducible exact H2_) | (have H2_:=(Option.bind_some _ _).symm.trans H;with_reducible exact H2_) | with_reducible exact H | (rw [hy410];exact H) | exact H
   have a3:=Z_ hy410
   clear hy410
   have H':=Z_ H
   clear H
   have p409 : 0 ≤ (x9_1 : Int):=dA_
   have q409 : x9_1 < (l0.length : Int):=dA_
   obtain ⟨ad409,e409,hx409_0⟩:=Kd.at_bool a5.out x9_1 p409 q409
   (try rw [← Nbq7.out] at hx409_0)
   cases e409
   replace hx409_0:=cB_ HB hx409_0
   replace p409:=eq_true p409
   replace q409:=eq_true q409
   go_wp2_with (first | ((with_reducible refine gate_builtin (b:=.append) (xs:=#[.tmp 15,.tmp 17]) rfl ?_);at_builtin;refine Kd.R_append (Kd.int .i64) (w0:=w) w.heap.size rfl (.tmp 15) (.tmp 17) 24 2 (.int .i64 0) 8 rfl Tryz.underlying24 info2 rfl (by decide) (by omega) u3 x3_1 x9_1 [.int .i64 x9_1] (fun _ => True) (fun _ => False) rfl rfl ?aP (fun _ hk => hk.elim) ?aF ?aO ?aB ?aS ?aL ?_;(case aP => exact rfl);(case aB => exact HB.out);(case aF => exact (fun _ _ => trivial));(case aO => exact a0.out);(case aS => exact (below_size HB.out));(case aL => have:=a6.out;omega);intro v411 w10 ho hb hg hat;rw [← a3.out] at ho;replace HB:=Z_ (hb);have a4:=Z_ (ho);clear a0 ho hb hg hat))
   go_roundg k1
   case measure => have:=HK1.out;omega
   case rel => exact ⟨(y410),(wrap64 (x9_1 + 1)),Sr_,H',⟨by have:=HK1.out;omega⟩,⟨Rk_ a4⟩,⟨Lb_⟩⟩
def ktL (C : Int → Option Bool) : Nat → List S83 → List Bool → Option (List Bool)
  | _,[],is => some is
  | i,t :: ts,is => if t.f0 = 2 then (if t.f3 ≤ 9 then ktL C (i + 1) ts (is.set i true) else (C t.f3).bind fun b => if b = true then ktL C (i + 1) ts (is.set i true) else ktL C (i + 1) ts is) else ktL C (i + 1) ts is
def impl_Net_knownTo.f (k : Nat) (lt : List S83) (lb lh : List Int) : Option (List Int) :=
  (impl_flags.f k lt lh).bind fun is0 => if is0.length = lt.length then (ktL (slices_Contains_int64_int64.f k lb) 0 lt is0).bind (impl_risen.f k) else none
set_option maxHeartbeats 8000000 in
set_option maxRecDepth 100000 in
theorem impl_Net_knownTo.calls (k p : Nat) (A0 A1 A2 A3 A4 A5 : Option Addr) (c0 c1 c2 c3 c4 c5 n1 n4 n5 : Nat) (lt : List S83) (lb lh r : List Int) (w : World) (hI : w.heap[p]? = some (.cells #[.slice A0 lt.length c0,.slice A1 n1 c1,.slice A2 lb.length c2,.slice A3 lh.length c3,.slice A4 n4 c4,.slice A5 n5 c5] 34 (0,0))) (hr0 : Kd.C k83 w A0 lt.length lt) (hc0 : lt.length ≤ c0) (hr2 : Kd.C (Kd.int .i64) w A2 lb.length lb) (hc2 : lb.length ≤ c2) (hr3 : Kd.C (Kd.int .i64) w A3 lh.length lh) (hc3 : lh.length ≤ c3) (h : impl_Net_knownTo.f k lt lb lh = some r) :
    Calls Tryz.prog 35 #[.pointer (some ⟨p,0,none⟩)] w fun e w' => ∃ v : Value,e = .returned v ∧ Kd.R (Kd.int .i64) 2 w' w.heap.size (fun _ => True) v r ∧ Below w.heap.size w w':=by
 have hu1:=Tryz.underlying34
 have hu2:=Tryz.underlying83
 have BI:=Z_ hI
 have a5:=Z_ hr0
 have a8:=Z_ hc0
 have a6:=Z_ hr2
 have a7:=Z_ hc2
 have a9:=Z_ hr3
 have aa:=Z_ hc3
 have HN0:=Z_ hr0.2.1
 clear hI hr0 hc0 hr2 hc2 hr3 hc3
 have HB:=Z_ (Below.refl w.heap.size w)
 unfold impl_Net_knownTo.f at h
 have H:=h
 clear h
 replace H:=bS_ H
 obtain ⟨is0,HF,H⟩:=H
 replace H:=iN_ H
 obtain ⟨hl0,H⟩:=H
 have HL0:=Z_ hl0
 clear hl0
 have H':=Z_ H
 clear H
 go_enter Tryz.func35,Tryz.ntmps35
 go_wp2
 replace BI:=Z_ (bD_ BI.out)
 replace HB:=Z_ (lD_ HB.out)
 refine start_ (n:=10) (S:=fun w' => w'.cell? ⟨p,0,none⟩ = some (.slice A0 lt.length c0) ∧ w'.cell? ⟨p,3,none⟩ = some (.slice A3 lh.length c3)) (ds:=[]) (Bt 10 0) (by kernel_rfl) rfl rfl ⟨(blk_cell BI.out 0).trans rfl,(blk_cell BI.out 3).trans rfl⟩ (fun hHeld => ?_)
 generalize hWD : w.drew = wD at BI HB hHeld ⊢
 refine pu_ 0 (some 6) (Bt 10 1) (by kernel_rfl) ?_
 refine pu_ 1 (some 7) (Bt 10 3) (by kernel_rfl) ?_
 refine pu_ 2 (some 8) (Bt 10 7) (by kernel_rfl) ?_
 refine ta_ 3 (some 9) (Bt 10 15) (by kernel_rfl) hHeld ?_
 refine pu_ 4 (some 10) (Bt 10 31) (by kernel_rfl) ?_
 refine pu_ 5 (some 11) (Bt 10 63) (by kernel_rfl) ?_
 refine pu_ 6 (some 12) (Bt 10 127) (by kernel_rfl) ?_
 refine ta_ 7 (some 13) (Bt 10 255) (by kernel_rfl) hHeld ?_
 refine one_ (i:=8) (N:=some 14) (Bt 10 511) rfl rfl (by kernel_rfl) (by decide) (fun K hK => ?_)
 refine goes_ Tryz.func69 (by kernel_rfl) rfl #[.slice A0 lt.length c0,.slice A3 lh.length c3] (by rfl) rfl rfl (by (try simp only [List.map_toArray,List.map_cons,List.map_nil]);first | done | rfl) ?_
 refine (impl_flags.calls k A0 c0 lt A3 c3 lh is0 _ (Kd.C_below a5.out HB.out) a8.out (Kd.C_below a9.out HB.out) aa.out HF.out).mono ?_
 rintro e w14 ⟨v3,rfl,ho,hb⟩
 refine ⟨_,rfl,?_⟩
 have HO:=Z_ (Kd.R_lower ho (below_size HB.out))
 replace BI:=Z_ (bB_ BI.out hb)
 replace HB:=Z_ (lP_ HB.out hb)
 clear ho hb
 refine hK.out _ _ ⟨(blk_cell BI.out 0).trans rfl,(blk_cell BI.out 3).trans rfl⟩ (fun hHeld => ?_)
 clear hK K
 refine norm_ (a':=?_) ?_ ?_
 rotate_left
 ·show Act.put _ (some 14) _ = _
  simp only [Act.put,lA_,lZ_,lS_,i64_w,i32_w]
  rfl
 refine pu_ 9 (some 3) (Bt 10 1023) (by kernel_rfl) ?_
 refine done_ (by kernel_rfl) ?_
 clear hWD hHeld
 obtain ⟨_,_,_,_,_,_,_,_,_,_,_,_⟩:=bc6 BI.out
 go_wp2
 go_loopg [20] lt.length (fun gg v20 wr => ∃ (kk : Nat) (is : List Bool),kk ≤ lt.length ∧ lt.length - kk ≤ gg ∧ v20 = .int .i64 kk ∧ Aside0 (is.length = lt.length) ∧ Aside0 (wr.heap[p]? = some (.cells #[.slice A0 lt.length c0,.slice A1 n1 c1,.slice A2 lb.length c2,.slice A3 lh.length c3,.slice A4 n4 c4,.slice A5 n5 c5] 34 (0,0))) ∧ Aside0 (Kd.bool.R 4 wr w.heap.size (fun _ => True) v3 is) ∧ Aside0 (Below w.heap.size w wr) ∧ Aside0 ((ktL (slices_Contains_int64_int64.f k lb) kk (lt.drop kk) is).bind (impl_risen.f k) = some r))
 case atStart => exact ⟨0,is0,Nat.zero_le _,by omega,rfl,HL0,BI,HO,HB,H'⟩
 case round =>
  clear H' HO HB BI
  obtain ⟨kk,is,hkn,hgg,rfl,HLI,BI,HO,HB,H⟩:=hrel
  by_cases hlt : kk < lt.length
  rotate_left
  ·have hltz : ¬ (kk : Int) < (lt.length : Int):=by omega
   obtain rfl : kk = lt.length:=by omega
   have h:=H.out
   rw [List.drop_length] at h
   have HRS:=Z_ (show impl_risen.f k is = some r from h)
   clear h H
   obtain ⟨Ai,ci,ei⟩:=Kd.R_slice HO.out
   subst ei
   go_wp2_with (go_at_call 71;refine (impl_risen.calls k Ai ci is r _ (Kd.R_reads' (Rk_ HO)).2.2 (Kd.R_reads' HO.out).2.1 HRS.out).mono ?_;rintro e w47 ⟨v47,rfl,ho,hb⟩;have HQ:=Z_ (Kd.R_lower ho (below_size Lb_));replace HB:=Z_ (lP_ Lb_ hb);clear ho hb)
   go_ret
   exact ⟨_,rfl,Rk_ HQ,Lb_⟩
  have hltz : (kk : Int) < (lt.length : Int):=by omega
  have h:=H.out
  clear H
  rw [kt_get lt kk hlt] at h
  unfold ktL at h
  obtain ⟨ad,e,hy0,hy1,hy2,hy3⟩:=at_T83 a5.out (kk : Int) (by omega) (by omega)
  rw [Int.toNat_natCast] at hy0 hy1 hy2 hy3
  subst e
  generalize rd_T83 lt (kk : Int) = x at hy0 hy1 hy2 hy3 h
  have HY:=Z_ (And.intro hy0 (And.intro hy1 (And.intro hy2 hy3)))
  replace hy0:=cB_ HB hy0
  replace hy1:=cB_ HB hy1
  replace hy2:=cB_ HB hy2
  replace hy3:=cB_ HB hy3
  have H:=Z_ h
  clear h
  obtain ⟨g,cg,eg,GG,GL,GC⟩:=Kd.R_form HO.out (by rw [HLI.out];omega)
  rw [HLI.out] at eg
  subst eg
  replace GG:=Z_ GG
  clear GL GC
  obtain ⟨_,_,_,_,_,_,_,_,_,_,_,_⟩:=bc6 BI.out
  go_upto_region 5 with (go_big_may;first | ((with_reducible refine gD_ 5 rfl ?_);refine bx_ #[.int .i64 0,.int .i64 0,.int .i64 0,.int .i64 0] 83 ?_;intro g5 hg w3 hbox hb;have a4:=Z_ (show w.heap.size ≤ g5 by rw [hg];exact below_size HB.out);have NP:=Z_ (show p ≠ g5 by rw [hg];exact Nat.ne_of_lt (blk_lt BI.out));replace BI:=Z_ (bB_ BI.out hb);replace HO:=Z_ (Kd.R_below HO.out hb);replace HB:=Z_ (lP_ HB.out hb);have BK:=Z_ hbox;clear hb hbox hg hy0 hy1 hy2 hy3;have hy0:=cB_ HB HY.out.1;have hy1:=cB_ HB HY.out.2.1;have hy2:=cB_ HB HY.out.2.2.1;have hy3:=cB_ HB HY.out.2.2.2;obtain ⟨_,_,_,_,_,_,_,_⟩:=bc4H BK.out))
  (try simp only [Act.put,lA_,lZ_,lS_])
  have n0_:=Z_ (blk_put (blk_put (blk_put (blk_put BK.out 0 (.int .i64 x.f0) rfl) 1 (.int .i64 x.f1) rfl) 2 (.int .i64 x.f2) rfl) 3 (.int .i64 x.f3) rfl)
  replace HO:=Z_ (R_set4 (a0:=.int .i64 x.f0) (a1:=.int .i64 x.f1) (a2:=.int .i64 x.f2) (a3:=.int .i64 x.f3) HO.out BK.out (by decide))
  replace BI:=Z_ (bF_ (bF_ (bF_ (bF_ BI.out NP.out (.int .i64 x.f0) (p:=⟨g5,0,none⟩)) NP.out (.int .i64 x.f1) (p:=⟨g5,1,none⟩)) NP.out (.int .i64 x.f2) (p:=⟨g5,2,none⟩)) NP.out (.int .i64 x.f3) (p:=⟨g5,3,none⟩))
  replace HB:=Z_ (lS1_ (j:=3) (v:=.int .i64 x.f3) (lS1_ (j:=2) (v:=.int .i64 x.f2) (lS1_ (j:=1) (v:=.int .i64 x.f1) (lS1_ (j:=0) (v:=.int .i64 x.f0) HB.out a4.out) a4.out) a4.out) a4.out)
  clear BK hy0 hy1 hy2 hy3
  have BK:=n0_
  clear n0_
  generalize (w3.setCell ⟨g5,0,none⟩ (.int .i64 x.f0) |>.setCell ⟨g5,1,none⟩ (.int .i64 x.f1) |>.setCell ⟨g5,2,none⟩ (.int .i64 x.f2) |>.setCell ⟨g5,3,none⟩ (.int .i64 x.f3)) = w4 at BK BI HO HB ⊢
  obtain ⟨_,_,_,_,_,_,_,_⟩:=bc4H BK.out
  obtain ⟨_,_,_,_,_,_,_,_,_,_,_,_⟩:=bc6 BI.out
  obtain ⟨hKt,hKf⟩:=rb_get HO.out kk hlt
  have hw1 : IntKind.i64.wrap ((kk : Int) + 1) = (kk : Int) + 1:=by rw [i64_w,w64k (by omega) (by have:=HN0.out;omega)]
  have NPG : Aside0 (g ≠ p):=⟨fun e => by
    obtain ⟨_,_,e2,_,_,cs,hcs⟩:=Kd.R_form HO.out (by rw [HLI.out];omega)
    injection e2 with e2
    injection e2 with e2
    injection e2 with e2
    subst e2
    rw [e,BI.out] at hcs
    injection hcs with hcs
    injection hcs with _ hcs
    exact absurd hcs (by decide)⟩
  have hpg:=NPG.out.symm
  refine if q2 : x.f0 = 2 then (if q9 : x.f3 ≤ 9 then ?_ else ?_) else ?_
  all_goals replace H:=H.out
  ·rw [if_pos q2,if_pos q9] at H
   have H':=Z_ H
   obtain ⟨_,_,_⟩:=eqTH q2
   have q9a : decide (x.f3 ≤ 9) = true:=decide_eq_true q9
   clear H q2 q9
   go_quiet (fail)
   go_wp2_with (first | ((with_reducible refine gate_store (t:=4) (p:=44) rfl ?_);refine stH 4 ?_;intro w6 hw;obtain ⟨hp_,hgw⟩:=rb_put (Rk_ HO) kk hw;replace BI:=Z_ ((hgw.block p (by have:=blk_lt BI.out;simpa using this) (fun e => NPG.out (by injection e with e;exact e.symm))).trans (Bk_ BI));replace HB:=Z_ (show Below w.heap.size w w6 by rw [hw];exact lS1_ Lb_ GG.out);replace HO:=Z_ hp_;clear hp_ hw hgw))
   go_roundg (lt.length - (kk + 1))
   case measure => omega
   case rel => exact ⟨kk + 1,is.set kk true,by omega,by omega,(by first | rfl | (rw [hw1];push_cast;rfl) | (push_cast;rfl)),⟨by simpa using HLI.out⟩,⟨Bk_ BI⟩,⟨Rk_ HO⟩,⟨Lb_⟩,H'⟩
  ·rw [if_pos q2,if_neg q9,Option.bind_assoc] at H
   replace H:=bS_ H
   obtain ⟨b,HQ,H⟩:=H
   obtain ⟨_,_,_⟩:=eqTH q2
   have q9a : decide (x.f3 ≤ 9) = false:=decide_eq_false q9
   clear q2 q9
   cases b with
   | true =>
    have H':=Z_ H
    clear H
    go_quiet (first | (go_at_call 70;refine (slices_Contains_int64_int64.calls k A2 c2 lb x.f3 _ _ (Kd.C_below a6.out Lb_) a7.out HQ.out).mono ?_;rintro e w' ⟨rfl,⟨nd,rfl⟩⟩;(try first | exact ⟨rfl,_,World.drewN_drewN _ _ _⟩ | exact ⟨rfl,_,Eq.trans (World.drewN_drewN _ _ _) (congrArg (World.drewN _) (Nat.add_assoc _ _ _))⟩)))
    go_wp2_with (first | ((with_reducible refine gate_store (t:=4) (p:=44) rfl ?_);refine stH 4 ?_;intro w6 hw;obtain ⟨hp_,hgw⟩:=rb_put (Rk_ HO) kk hw;replace BI:=Z_ ((hgw.block p (by have:=blk_lt BI.out;simpa using this) (fun e => NPG.out (by injection e with e;exact e.symm))).trans (Bk_ BI));replace HB:=Z_ (show Below w.heap.size w w6 by rw [hw];exact lS1_ Lb_ GG.out);replace HO:=Z_ hp_;clear hp_ hw hgw))
    go_roundg (lt.length - (kk + 1))
    case measure => omega
    case rel => exact ⟨kk + 1,is.set kk true,by omega,by omega,(by first | rfl | (rw [hw1];push_cast;rfl) | (push_cast;rfl)),⟨by simpa using HLI.out⟩,⟨Bk_ BI⟩,⟨Rk_ HO⟩,⟨Lb_⟩,H'⟩
   | false =>
    have H':=Z_ H
    clear H
    go_quiet (first | (go_at_call 70;refine (slices_Contains_int64_int64.calls k A2 c2 lb x.f3 _ _ (Kd.C_below a6.out Lb_) a7.out HQ.out).mono ?_;rintro e w' ⟨rfl,⟨nd,rfl⟩⟩;(try first | exact ⟨rfl,_,World.drewN_drewN _ _ _⟩ | exact ⟨rfl,_,Eq.trans (World.drewN_drewN _ _ _) (congrArg (World.drewN _) (Nat.add_assoc _ _ _))⟩)))
    go_wp2_with (first | ((with_reducible refine gate_store (t:=4) (p:=44) rfl ?_);refine stH 4 ?_;intro w6 hw;obtain ⟨hp_,hgw⟩:=rb_put (Rk_ HO) kk hw;replace BI:=Z_ ((hgw.block p (by have:=blk_lt BI.out;simpa using this) (fun e => NPG.out (by injection e with e;exact e.symm))).trans (Bk_ BI));replace HB:=Z_ (show Below w.heap.size w w6 by rw [hw];exact lS1_ Lb_ GG.out);replace HO:=Z_ hp_;clear hp_ hw hgw))
    go_roundg (lt.length - (kk + 1))
    case measure => omega
    case rel => exact ⟨kk + 1,is,by omega,by omega,(by first | rfl | (rw [hw1];push_cast;rfl) | (push_cast;rfl)),⟨by simpa using HLI.out⟩,⟨Bk_ BI⟩,⟨Rk_ HO⟩,⟨Lb_⟩,H'⟩
  ·rw [if_neg q2] at H
   have H':=Z_ H
   obtain ⟨_,_,_⟩:=eqFH q2
   clear H q2
   go_quiet (fail)
   go_wp2_with (first | ((with_reducible refine gate_store (t:=4) (p:=44) rfl ?_);refine stH 4 ?_;intro w6 hw;obtain ⟨hp_,hgw⟩:=rb_put (Rk_ HO) kk hw;replace BI:=Z_ ((hgw.block p (by have:=blk_lt BI.out;simpa using this) (fun e => NPG.out (by injection e with e;exact e.symm))).trans (Bk_ BI));replace HB:=Z_ (show Below w.heap.size w w6 by rw [hw];exact lS1_ Lb_ GG.out);replace HO:=Z_ hp_;clear hp_ hw hgw))
   go_roundg (lt.length - (kk + 1))
   case measure => omega
   case rel => exact ⟨kk + 1,is,by omega,by omega,(by first | rfl | (rw [hw1];push_cast;rfl) | (push_cast;rfl)),⟨by simpa using HLI.out⟩,⟨Bk_ BI⟩,⟨Rk_ HO⟩,⟨Lb_⟩,H'⟩
end Go.Proofs.YtcafikgabidphaaGreat.G
namespace Go.Proofs.YtcafikgabidphaaGreat.G
open Go.RowKit Go.Proofs.YtcafikgabidphaaGreatW.PrintWords Go.Proofs.YtcafikgabidphaaGreatW.PrintLast Go.Proofs.YtcafikgabidphaaGreatW.PrintMore
attribute [local go_sem] max2_int min2_int max_two min_two max_three min_three max_four min_four   -- for this text's walks alone
set_option linter.unusedVariables false
set_option linter.unusedSimpArgs false
section
theorem int_kdH : Go.Maps.Keyed Tryz.prog 2:=Go.Maps.int_keyed Tryz.underlying2
def Mbd (D : DataW Unit) (mp : Int → Bool) : Prop:=∀ y : Int,(Lit.int .i64 y).wf = true → D.atKey (.int .i64 y) (.lit (.bool false)) = .lit (.bool (mp y))
def bput (mp : Int → Bool) (k : Int) : Int → Bool:=fun y => if y = k then true else mp y
theorem mbd_nil : Mbd (.map []) (fun _ => false):=fun y _ => rfl
theorem mbd_put {D : DataW Unit} {mp : Int → Bool} {k : Int} (h : Mbd D mp) (hD : Go.Maps.IsMap D) (hk : (Lit.int .i64 k).wf = true) : Mbd (D.put (.int .i64 k) (.lit (.bool true))) (bput mp k):=by
  intro y hy
  unfold bput
  by_cases e : y = k
  · subst e
    rw [if_pos rfl,Go.Maps.atKey_put_same hD (int_kdH.key (Go.Maps.keyOf_int_mk Tryz.underlying2 hy))]
  · rw [if_neg e,Go.Maps.atKey_put_other (fun e' => e (by injection e'))]
    exact h y hy
theorem own_mapH_is {w : World} {P : Program} {k e : TypeId} {b n : Nat} {D : DataW Unit} (h : w.ownsMap P k (plainElem P e) b n D) : ∃ es c,w.heap[b]? = some (.map es c):=by
  obtain ⟨es,clock,hb,_⟩:=h
  exact ⟨es,clock,hb⟩
theorem R_grown_mapH {α : Type} {d : Kd α} {e base B : Nat} {ok : Nat → Prop} {W w1 : World} {v : Value} {xs : List α} (h : d.R e W base ok v xs) (hg : W.grownBy w1 (some B)) (hm : ∃ es c,W.heap[B]? = some (.map es c)) : d.R e w1 base ok v xs :=
  Kd.R_mono (Kd.R_move (Kd.R_bound h) (fun k hk => hg.block k hk.2.2.1 (fun e => by
    obtain ⟨_,_,_,q,_,cells,hc⟩:=hk
    obtain ⟨es,c,hm⟩:=hm
    injection e with e
    subst e
    rw [hm] at hc
    cases hc))) (fun _ hk => hk.1)
theorem own_map_setH {w : World} {P : Program} {k e : TypeId} {b n : Nat} {D : DataW Unit} (h : w.ownsMap P k (plainElem P e) b n D) {p : Addr} {u : Value} (hne : b ≠ p.block) : (w.setCell p u).ownsMap P k (plainElem P e) b n D:=by
  obtain ⟨es,clock,hb,r⟩:=h
  exact ⟨es,clock,(Below.heap_setCell w p u b hne).trans hb,r⟩
theorem own_map_belowH {w w' : World} {P : Program} {k e : TypeId} {b n : Nat} {D : DataW Unit} (h : w.ownsMap P k (plainElem P e) b n D) (hb : Below w.heap.size w w') : w'.ownsMap P k (plainElem P e) b n D:=h.kept (grown_of_below hb none) (by simp)
theorem plainElem_boolH {H : Type} {P : Program} {e : TypeId} (he : P.underlying e = some .bool) {v : Value} {z : DataW H × List MemPlace} (h : plainElem P e v = some z) : ∃ a,v = .bool a ∧ z = (.lit (.bool a),[]):=by
  unfold plainElem at h
  rw [he] at h
  cases v <;> simp at h
  exact ⟨_,rfl,h.symm⟩
set_option maxRecDepth 100000 in
theorem mlk {W : World} {B n : Nat} {D : DataW Unit} {mp : Int → Bool} (h : W.ownsMap Tryz.prog 2 (plainElem Tryz.prog 4) B n D) (hm : Mbd D mp) (y : Int) (hy : (Lit.int .i64 y).wf = true) :
    (Instr.lookup 124 (.map (some B)) (.int .i64 y) false).run Tryz.prog W = .ok (.bool (mp y)) W:=by
  obtain ⟨v,ps,hrun,hv⟩:=h.lookup int_kdH Tryz.underlying124 (show (zeroValue 4).run Tryz.prog W = .ok (.bool false) W from rfl) (plainElem_bool Tryz.underlying4 false) (Go.Maps.keyOf_int_mk Tryz.underlying2 hy)
  obtain ⟨c,rfl,hc⟩:=plainElem_boolH Tryz.underlying4 hv
  simp only [Prod.mk.injEq] at hc
  rw [hm y hy] at hc
  have e : mp y = c:=by
    have:=hc.1
    injection this with h1
    injection h1
  rw [hrun,e]
end
def mkHs (l : List S83) (kn : List Bool) : Nat → Int → Bool
  | 0 => fun _ => false
  | i + 1 => if (rd_T83 l (i : Int)).f0 = 6 ∧ kn.getD i false = true then bput (mkHs l kn i) (rd_T83 l (i : Int)).f1 else mkHs l kn i
def ob (out : List Bool) (x : Int) : Bool:=out.getD x.toNat false
def mkB (l : List S83) (H : Int → Bool) (i : Nat) (out : List Bool) : Bool :=
  let t:=rd_T83 l (i : Int)
  if t.f0 = 1 then true else if t.f0 = 3 ∨ t.f0 = 4 ∨ t.f0 = 5 then (ob out t.f1 && ob out t.f2) else if t.f0 = 6 then ob out t.f1 else if t.f0 = 7 then ((ob out t.f1 && (ob out t.f2 || H t.f2)) || (ob out t.f2 && H t.f1)) else out.getD i false
def mkO (l : List S83) (kn : List Bool) (H : Int → Bool) : Nat → List Bool
  | 0 => List.replicate l.length false
  | i + 1 => (mkO l kn H i).set i (mkB l H i (mkO l kn H i) || kn.getD i false)
theorem mkO_length (l : List S83) (kn : List Bool) (H : Int → Bool) : ∀ i,(mkO l kn H i).length = l.length
  | 0 => by simp [mkO]
  | i + 1 => by rw [mkO,List.length_set,mkO_length l kn H i]
def mkIn (n : Nat) (t : S83) : Bool:=(decide (t.f0 = 1 ∨ t.f0 = 2)) || (decide (0 ≤ t.f1 ∧ t.f1 < (n : Int)) && (decide (t.f0 = 6) || decide (0 ≤ t.f2 ∧ t.f2 < (n : Int))))
def mkOk (l : List S83) : Bool:=(List.range l.length).all fun (i : Nat) => mkIn l.length (rd_T83 l (i : Int))
theorem mkOk_at {l : List S83} (h : mkOk l = true) {i : Nat} (hi : i < l.length) : mkIn l.length (rd_T83 l (i : Int)) = true:=List.all_eq_true.1 h i (List.mem_range.2 hi)
def impl_makeable.f (l0 : List S83) (l1 : List Bool) : Option (List Bool):=if l1.length = l0.length ∧ mkOk l0 = true ∧ l0.length ≤ 400 then some (mkO l0 l1 (mkHs l0 l1 l0.length) l0.length) else none
set_option maxHeartbeats 8000000 in
set_option maxRecDepth 100000 in
theorem impl_makeable.calls (A0 : Option Addr) (c0 : Nat) (l0 : List S83) (A1 : Option Addr) (c1 : Nat) (l1 : List Bool) (r : List Bool) (w : World) (hr0 : Kd.C k83 w A0 l0.length l0) (hc0 : l0.length ≤ c0) (hr1 : Kd.C Kd.bool w A1 l1.length l1) (hc1 : l1.length ≤ c1) (h : impl_makeable.f l0 l1 = some r) :
    Calls Tryz.prog 62 #[.slice A0 l0.length c0,.slice A1 l1.length c1] w fun e w' => ∃ v : Value,e = .returned v ∧ Kd.bool.R 4 w' w.heap.size (fun _ => True) v r ∧ Below w.heap.size w w':=by
 unfold impl_makeable.f at h
 split at h
 rotate_left
 ·cases h
 rename_i hg
 obtain ⟨hkl,hok,hl4⟩:=hg
 obtain ⟨H,hH⟩ : ∃ H,H = mkHs l0 l1 l0.length:=⟨_,rfl⟩
 rw [← hH] at h
 obtain rfl:=Option.some.inj h
 clear h
 have HH:=Z_ hH
 have a5:=Z_ hr0
 have a6:=Z_ hr1
 have HB:=Z_ (Below.refl w.heap.size w)
 have HOK:=Z_ hok
 have HKL:=Z_ hkl
 have HL4:=Z_ hl4
 clear hr0 hr1 hok hc0 hc1 hH
 have hu1:=Tryz.underlying57
 have hu2:=Tryz.underlying30
 have hu3:=Tryz.underlying83
 have hmm:=@run_makeMap
 obtain ⟨y0,hy0⟩ : ∃ y : List Bool,y = List.replicate ((l0.length : Int)).toNat false:=⟨_,rfl⟩
 have NY:=Z_ hy0
 clear hy0
 have z0 : 0 ≤ (l0.length : Int):=by omega
 have z1 : ((l0.length : Int)).toNat ≤ 281474976710656:=by omega
 go_enter Tryz.func62,Tryz.ntmps62
 go_wp2_with (first | ((with_reducible refine gD_ 13 rfl ?_);refine Kd.R_make Kd.bool _ 4 rfl (N:=13) rfl 57 _ _ rfl (l0.length : Int) rfl rfl Tryz.underlying57 (.bool false) 1 info4 rfl (by decide) (by omega) false (ok:=fun _ => True) (okp:=fun _ => True) rfl (fun _ hk => hk) trivial z0 (Nat.le_trans (Nat.mul_le_mul_right _ z1) (by omega)) (Below.refl _ _) (Nat.le_refl _) ?_;intro v13 w13 ho hb hg_ hnew_;clear hg_ hnew_;rw [← NY.out] at ho;have HO:=Z_ (Kd.R_lower ho (below_size HB.out));replace HB:=Z_ (lP_ HB.out hb);clear ho hb))
 have GB:=Z_ (show w.heap.size ≤ w13.heap.size from below_size HB.out)
 have HM : Aside0 ((w13.alloc (.map #[] 0)).ownsMap Tryz.prog 2 (plainElem (H:=Unit) Tryz.prog 4) w13.heap.size 0 (.map [])):=Z_ (World.ownsMap_made w13 _ _ _)
 replace HB:=Z_ (lA1_ (o:=.map #[] 0) HB.out)
 replace HO:=Z_ (rA_ HO.out (.map #[] 0))
 generalize w13.heap.size = B at GB HM ⊢
 generalize w13.alloc (.map #[] 0) = w14 at HM HB HO ⊢
 go_loopg [17] l0.length (fun gg s17 wr => ∃ (kk m : Nat) (D : DataW Unit),kk ≤ l0.length ∧ l0.length - kk ≤ gg ∧ s17 = .int .i64 kk ∧ m ≤ kk ∧ Aside0 (wr.ownsMap Tryz.prog 2 (plainElem Tryz.prog 4) B m D) ∧ Aside0 (Go.Maps.IsMap D) ∧ Aside0 (Mbd D (mkHs l0 l1 kk)) ∧ Aside0 (Kd.bool.R 4 wr w.heap.size (fun _ => True) v13 y0) ∧ Aside0 (Below w.heap.size w wr))
 case atStart => exact ⟨0,0,.map [],Nat.zero_le _,by omega,rfl,Nat.le_refl _,HM,⟨Go.Maps.isMap_empty⟩,⟨mbd_nil⟩,HO,HB⟩
 case round =>
  clear HM HO HB
  obtain ⟨kk,m,D,hkn,hgg,rfl,hmk,HM,HD,HS,HO,HB⟩:=hrel
  by_cases hlt : kk < l0.length
  rotate_left
  ·have hltz : ¬ (kk : Int) < (l0.length : Int):=by omega
   obtain rfl : kk = l0.length:=by omega
   rw [← HH.out] at HS
   have NY0 : y0 = mkO l0 l1 H 0:=by rw [NY.out,Int.toNat_natCast];rfl
   rw [NY0] at HO
   clear NY0 hltz hgg hkn
   go_wp2
   go_loopg [37] l0.length (fun gg s37 wr => ∃ kk : Nat,kk ≤ l0.length ∧ l0.length - kk ≤ gg ∧ s37 = .int .i64 kk ∧ Aside0 (wr.ownsMap Tryz.prog 2 (plainElem Tryz.prog 4) B m D) ∧ Aside0 (Go.Maps.IsMap D) ∧ Aside0 (Mbd D H) ∧ Aside0 (Kd.bool.R 4 wr w.heap.size (fun _ => True) v13 (mkO l0 l1 H kk)) ∧ Aside0 (Below w.heap.size w wr))
   case atStart => exact ⟨0,Nat.zero_le _,by omega,rfl,HM,HD,HS,HO,HB⟩
   case round =>
    clear HM HD HS HO HB
    obtain ⟨kk,hkn,hgg,rfl,HM,HD,HS,HO,HB⟩:=hrel
    by_cases hlt : kk < l0.length
    rotate_left
    ·have hltz : ¬ (kk : Int) < (l0.length : Int):=by omega
     obtain rfl : kk = l0.length:=by omega
     go_wp2
     go_ret
     exact ⟨_,rfl,HO.out,HB.out⟩
    have hltz : (kk : Int) < (l0.length : Int):=by omega
    have hltd : decide ((kk : Int) < (l0.length : Int)) = true:=decide_eq_true hltz
    have hkz : (kk : Int) < (l1.length : Int):=by have:=HKL.out;omega
    have hin:=mkOk_at HOK.out hlt
    obtain ⟨adk,ek,hkw⟩:=Kd.at_bool a6.out (kk : Int) (by omega) (by omega)
    subst ek
    rw [Int.toNat_natCast,show rdOf false l1 (kk : Int) = l1.getD kk false from rfl] at hkw
    have hmo : mkO l0 l1 H (kk + 1) = (mkO l0 l1 H kk).set kk (mkB l0 H kk (mkO l0 l1 H kk) || l1.getD kk false):=rfl
    have hol:=mkO_length l0 l1 H kk
    obtain ⟨bv,hbv⟩ : ∃ bv,bv = mkB l0 H kk (mkO l0 l1 H kk):=⟨_,rfl⟩
    rw [← hbv] at hmo
    have hv:=hbv
    clear hbv
    unfold mkB at hv
    generalize mkO l0 l1 H kk = O at HO hmo hol hv
    generalize l1.getD kk false = kb at hkw hmo
    obtain ⟨ad,e,hy0,hy1,hy2,hy3⟩:=at_T83 a5.out (kk : Int) (by omega) (by omega)
    rw [Int.toNat_natCast] at hy0 hy1 hy2 hy3
    subst e
    generalize rd_T83 l0 (kk : Int) = x at hy0 hy1 hy2 hy3 hin hv
    have HY:=Z_ (And.intro hy0 (And.intro hy1 (And.intro hy2 hy3)))
    replace hy0:=cB_ HB hy0
    replace hy1:=cB_ HB hy1
    replace hy2:=cB_ HB hy2
    replace hy3:=cB_ HB hy3
    have HMO:=Z_ hmo
    have HOL:=Z_ hol
    have HIN:=Z_ hin
    have HV:=Z_ hv
    have HKW:=Z_ hkw
    clear hmo hol hin hv hkw
    obtain ⟨g,cg,eg,GG,GL,GC⟩:=Kd.R_form HO.out (by rw [HOL.out];omega)
    rw [HOL.out] at eg
    subst eg
    replace GG:=Z_ GG
    replace GL:=Z_ GL
    have NG : Aside0 (B ≠ g):=⟨fun h => by obtain ⟨cs,hcs⟩:=GC;obtain ⟨es,cl,hes⟩:=own_mapH_is HM.out;rw [h,hcs] at hes;cases hes⟩
    clear GC
    go_upto_region 11 with (go_big_may;first | ((with_reducible refine gD_ 10 rfl ?_);refine bx_ #[.int .i64 0,.int .i64 0,.int .i64 0,.int .i64 0] 83 ?_;intro g5 hg w3 hbox hb;have a4:=Z_ (show w.heap.size ≤ g5 by rw [hg];exact below_size HB.out);have NE5:=Z_ (show B ≠ g5 by rw [hg];exact Nat.ne_of_lt HM.out.lt);replace HM:=Z_ (own_map_belowH HM.out hb);replace HO:=Z_ (Kd.R_below HO.out hb);replace HB:=Z_ (lP_ HB.out hb);have BK:=Z_ hbox;clear hb hbox hg hy0 hy1 hy2 hy3;have hy0:=cB_ HB HY.out.1;have hy1:=cB_ HB HY.out.2.1;have hy2:=cB_ HB HY.out.2.2.1;have hy3:=cB_ HB HY.out.2.2.2;obtain ⟨_,_,_,_,_,_,_,_⟩:=bc4H BK.out))
    (try simp only [Act.put,lA_,lZ_,lS_])
    have n0_:=Z_ (blk_put (blk_put (blk_put (blk_put BK.out 0 (.int .i64 x.f0) rfl) 1 (.int .i64 x.f1) rfl) 2 (.int .i64 x.f2) rfl) 3 (.int .i64 x.f3) rfl)
    replace HM:=Z_ (own_map_setH (p:=⟨g5,3,none⟩) (u:=.int .i64 x.f3) (own_map_setH (p:=⟨g5,2,none⟩) (u:=.int .i64 x.f2) (own_map_setH (p:=⟨g5,1,none⟩) (u:=.int .i64 x.f1) (own_map_setH (p:=⟨g5,0,none⟩) (u:=.int .i64 x.f0) HM.out NE5.out) NE5.out) NE5.out) NE5.out)
    replace HO:=Z_ (R_set4 (a0:=.int .i64 x.f0) (a1:=.int .i64 x.f1) (a2:=.int .i64 x.f2) (a3:=.int .i64 x.f3) HO.out BK.out (by decide))
    replace HB:=Z_ (lS1_ (j:=3) (v:=.int .i64 x.f3) (lS1_ (j:=2) (v:=.int .i64 x.f2) (lS1_ (j:=1) (v:=.int .i64 x.f1) (lS1_ (j:=0) (v:=.int .i64 x.f0) HB.out a4.out) a4.out) a4.out) a4.out)
    clear BK hy0 hy1 hy2 hy3
    have BK:=n0_
    clear n0_
    generalize (w3.setCell ⟨g5,0,none⟩ (.int .i64 x.f0) |>.setCell ⟨g5,1,none⟩ (.int .i64 x.f1) |>.setCell ⟨g5,2,none⟩ (.int .i64 x.f2) |>.setCell ⟨g5,3,none⟩ (.int .i64 x.f3)) = w4 at BK HM HO HB ⊢
    obtain ⟨_,_,_,_,_,_,_,_⟩:=bc4H BK.out
    have hk0:=cB_ HB HKW.out
    obtain ⟨hKt,hKf⟩:=rb_get HO.out kk hlt
    refine if q1 : x.f0 = 1 then ?_ else if q3 : x.f0 = 3 then ?_ else if q4 : x.f0 = 4 then ?_ else if q5 : x.f0 = 5 then ?_ else if q6 : x.f0 = 6 then ?_ else if q7 : x.f0 = 7 then ?_ else ?_
    have hv:=HV.out
    clear HV
    rw [if_pos q1] at hv
    obtain ⟨_,_,_⟩:=eqTH (show x.f0 = 1 by omega)
    obtain ⟨_,_,_⟩:=eqFH (show ¬ x.f0 = 3 by omega)
    obtain ⟨_,_,_⟩:=eqFH (show ¬ x.f0 = 4 by omega)
    obtain ⟨_,_,_⟩:=eqFH (show ¬ x.f0 = 5 by omega)
    obtain ⟨_,_,_⟩:=eqFH (show ¬ x.f0 = 6 by omega)
    obtain ⟨_,_,_⟩:=eqFH (show ¬ x.f0 = 7 by omega)
    rotate_left
    have hv:=HV.out
    clear HV
    rw [if_neg q1,if_pos (.inl q3)] at hv
    obtain ⟨_,_,_⟩:=eqFH (show ¬ x.f0 = 1 by omega)
    obtain ⟨_,_,_⟩:=eqTH (show x.f0 = 3 by omega)
    obtain ⟨_,_,_⟩:=eqFH (show ¬ x.f0 = 4 by omega)
    obtain ⟨_,_,_⟩:=eqFH (show ¬ x.f0 = 5 by omega)
    obtain ⟨_,_,_⟩:=eqFH (show ¬ x.f0 = 6 by omega)
    obtain ⟨_,_,_⟩:=eqFH (show ¬ x.f0 = 7 by omega)
    have pA:=(show (0 ≤ x.f1 ∧ x.f1 < (l0.length : Int)) by have:=HIN.out;simp [mkIn] at this;omega)
    have hA : w4.cell? ⟨g,x.f1.toNat,none⟩ = some (.bool (ob O x.f1)):=(Kd.R_celln false HO.out x.f1 pA.1 pA.2).1
    have qA0 : (0 ≤ x.f1) = True:=eq_true pA.1
    have qA1 : (x.f1 < (l0.length : Int)) = True:=eq_true pA.2
    have pB:=(show (0 ≤ x.f2 ∧ x.f2 < (l0.length : Int)) by have:=HIN.out;simp [mkIn] at this;omega)
    have hB : w4.cell? ⟨g,x.f2.toNat,none⟩ = some (.bool (ob O x.f2)):=(Kd.R_celln false HO.out x.f2 pB.1 pB.2).1
    have qB0 : (0 ≤ x.f2) = True:=eq_true pB.1
    have qB1 : (x.f2 < (l0.length : Int)) = True:=eq_true pB.2
    generalize ob O x.f1 = a at hA hv
    generalize ob O x.f2 = b at hB hv
    clear pA pB
    cases a <;> cases b
    rotate_left 4
    have hv:=HV.out
    clear HV
    rw [if_neg q1,if_pos (.inr (.inl q4))] at hv
    obtain ⟨_,_,_⟩:=eqFH (show ¬ x.f0 = 1 by omega)
    obtain ⟨_,_,_⟩:=eqFH (show ¬ x.f0 = 3 by omega)
    obtain ⟨_,_,_⟩:=eqTH (show x.f0 = 4 by omega)
    obtain ⟨_,_,_⟩:=eqFH (show ¬ x.f0 = 5 by omega)
    obtain ⟨_,_,_⟩:=eqFH (show ¬ x.f0 = 6 by omega)
    obtain ⟨_,_,_⟩:=eqFH (show ¬ x.f0 = 7 by omega)
    have pA:=(show (0 ≤ x.f1 ∧ x.f1 < (l0.length : Int)) by have:=HIN.out;simp [mkIn] at this;omega)
    have hA : w4.cell? ⟨g,x.f1.toNat,none⟩ = some (.bool (ob O x.f1)):=(Kd.R_celln false HO.out x.f1 pA.1 pA.2).1
    have qA0 : (0 ≤ x.f1) = True:=eq_true pA.1
    have qA1 : (x.f1 < (l0.length : Int)) = True:=eq_true pA.2
    have pB:=(show (0 ≤ x.f2 ∧ x.f2 < (l0.length : Int)) by have:=HIN.out;simp [mkIn] at this;omega)
    have hB : w4.cell? ⟨g,x.f2.toNat,none⟩ = some (.bool (ob O x.f2)):=(Kd.R_celln false HO.out x.f2 pB.1 pB.2).1
    have qB0 : (0 ≤ x.f2) = True:=eq_true pB.1
    have qB1 : (x.f2 < (l0.length : Int)) = True:=eq_true pB.2
    generalize ob O x.f1 = a at hA hv
    generalize ob O x.f2 = b at hB hv
    clear pA pB
    cases a <;> cases b
    rotate_left 4
    have hv:=HV.out
    clear HV
    rw [if_neg q1,if_pos (.inr (.inr q5))] at hv
    obtain ⟨_,_,_⟩:=eqFH (show ¬ x.f0 = 1 by omega)
    obtain ⟨_,_,_⟩:=eqFH (show ¬ x.f0 = 3 by omega)
    obtain ⟨_,_,_⟩:=eqFH (show ¬ x.f0 = 4 by omega)
    obtain ⟨_,_,_⟩:=eqTH (show x.f0 = 5 by omega)
    obtain ⟨_,_,_⟩:=eqFH (show ¬ x.f0 = 6 by omega)
    obtain ⟨_,_,_⟩:=eqFH (show ¬ x.f0 = 7 by omega)
    have pA:=(show (0 ≤ x.f1 ∧ x.f1 < (l0.length : Int)) by have:=HIN.out;simp [mkIn] at this;omega)
    have hA : w4.cell? ⟨g,x.f1.toNat,none⟩ = some (.bool (ob O x.f1)):=(Kd.R_celln false HO.out x.f1 pA.1 pA.2).1
    have qA0 : (0 ≤ x.f1) = True:=eq_true pA.1
    have qA1 : (x.f1 < (l0.length : Int)) = True:=eq_true pA.2
    have pB:=(show (0 ≤ x.f2 ∧ x.f2 < (l0.length : Int)) by have:=HIN.out;simp [mkIn] at this;omega)
    have hB : w4.cell? ⟨g,x.f2.toNat,none⟩ = some (.bool (ob O x.f2)):=(Kd.R_celln false HO.out x.f2 pB.1 pB.2).1
    have qB0 : (0 ≤ x.f2) = True:=eq_true pB.1
    have qB1 : (x.f2 < (l0.length : Int)) = True:=eq_true pB.2
    generalize ob O x.f1 = a at hA hv
    generalize ob O x.f2 = b at hB hv
    clear pA pB
    cases a <;> cases b
    rotate_left 4
    have hv:=HV.out
    clear HV
    rw [if_neg q1,if_neg (by omega),if_pos q6] at hv
    obtain ⟨_,_,_⟩:=eqFH (show ¬ x.f0 = 1 by omega)
    obtain ⟨_,_,_⟩:=eqFH (show ¬ x.f0 = 3 by omega)
    obtain ⟨_,_,_⟩:=eqFH (show ¬ x.f0 = 4 by omega)
    obtain ⟨_,_,_⟩:=eqFH (show ¬ x.f0 = 5 by omega)
    obtain ⟨_,_,_⟩:=eqTH (show x.f0 = 6 by omega)
    obtain ⟨_,_,_⟩:=eqFH (show ¬ x.f0 = 7 by omega)
    have pA:=(show (0 ≤ x.f1 ∧ x.f1 < (l0.length : Int)) by have:=HIN.out;simp [mkIn] at this;omega)
    have hA : w4.cell? ⟨g,x.f1.toNat,none⟩ = some (.bool (ob O x.f1)):=(Kd.R_celln false HO.out x.f1 pA.1 pA.2).1
    have qA0 : (0 ≤ x.f1) = True:=eq_true pA.1
    have qA1 : (x.f1 < (l0.length : Int)) = True:=eq_true pA.2
    generalize ob O x.f1 = a at hA hv
    clear pA
    cases a
    rotate_left 2
    have hv:=HV.out
    clear HV
    rw [if_neg q1,if_neg (by omega),if_neg q6,if_pos q7] at hv
    obtain ⟨_,_,_⟩:=eqFH (show ¬ x.f0 = 1 by omega)
    obtain ⟨_,_,_⟩:=eqFH (show ¬ x.f0 = 3 by omega)
    obtain ⟨_,_,_⟩:=eqFH (show ¬ x.f0 = 4 by omega)
    obtain ⟨_,_,_⟩:=eqFH (show ¬ x.f0 = 5 by omega)
    obtain ⟨_,_,_⟩:=eqFH (show ¬ x.f0 = 6 by omega)
    obtain ⟨_,_,_⟩:=eqTH (show x.f0 = 7 by omega)
    have pA:=(show (0 ≤ x.f1 ∧ x.f1 < (l0.length : Int)) by have:=HIN.out;simp [mkIn] at this;omega)
    have hA : w4.cell? ⟨g,x.f1.toNat,none⟩ = some (.bool (ob O x.f1)):=(Kd.R_celln false HO.out x.f1 pA.1 pA.2).1
    have qA0 : (0 ≤ x.f1) = True:=eq_true pA.1
    have qA1 : (x.f1 < (l0.length : Int)) = True:=eq_true pA.2
    have pB:=(show (0 ≤ x.f2 ∧ x.f2 < (l0.length : Int)) by have:=HIN.out;simp [mkIn] at this;omega)
    have hB : w4.cell? ⟨g,x.f2.toNat,none⟩ = some (.bool (ob O x.f2)):=(Kd.R_celln false HO.out x.f2 pB.1 pB.2).1
    have qB0 : (0 ≤ x.f2) = True:=eq_true pB.1
    have qB1 : (x.f2 < (l0.length : Int)) = True:=eq_true pB.2
    have hMA:=mlk HM.out HS.out x.f1 (wf_of_place pA.1 pA.2 HL4.out)
    have hMB:=mlk HM.out HS.out x.f2 (wf_of_place pB.1 pB.2 HL4.out)
    generalize ob O x.f1 = a at hA hv
    generalize ob O x.f2 = b at hB hv
    generalize H x.f1 = ha at hMA hv
    generalize H x.f2 = hb at hMB hv
    clear pA pB
    cases a <;> cases b <;> cases ha <;> cases hb
    rotate_left 16
    have hv:=HV.out
    clear HV
    rw [if_neg q1,if_neg (by omega),if_neg q6,if_neg q7] at hv
    obtain ⟨_,_,_⟩:=eqFH (show ¬ x.f0 = 1 by omega)
    obtain ⟨_,_,_⟩:=eqFH (show ¬ x.f0 = 3 by omega)
    obtain ⟨_,_,_⟩:=eqFH (show ¬ x.f0 = 4 by omega)
    obtain ⟨_,_,_⟩:=eqFH (show ¬ x.f0 = 5 by omega)
    obtain ⟨_,_,_⟩:=eqFH (show ¬ x.f0 = 6 by omega)
    obtain ⟨_,_,_⟩:=eqFH (show ¬ x.f0 = 7 by omega)
    generalize O.getD kk false = ok at hKt hv
    cases ok
    rotate_left 2
    all_goals
     obtain rfl : _ = bv:=hv.symm
     go_wp2_with (first | ((first | (with_reducible refine gate_store (t:=4) (p:=48) rfl ?_) | (with_reducible refine gate_store (t:=4) (p:=67) rfl ?_) | (with_reducible refine gate_store (t:=4) (p:=77) rfl ?_) | (with_reducible refine gate_store (t:=4) (p:=113) rfl ?_));refine stH 4 ?_;intro w6 hw;replace HB:=Z_ (show Below w.heap.size w w6 by rw [hw];exact lS1_ HB.out GG.out);replace HM:=Z_ (show w6.ownsMap _ _ _ _ _ _ by rw [hw];exact own_map_setH HM.out NG.out);obtain ⟨hp_,_⟩:=rb_put HO.out kk hw;replace HO:=Z_ hp_;clear hp_ hw;obtain ⟨hKt,hKf⟩:=rb_get HO.out kk hlt;rw [getD_setH _ (by rw [HOL.out];exact hlt)] at hKt;have hk0:=cB_ HB HKW.out) | ((first | (with_reducible refine gate_store (t:=4) (p:=126) rfl ?_));refine stH 4 ?_;intro w8 hw;replace HB:=Z_ (show Below w.heap.size w w8 by rw [hw];exact lS1_ HB.out GG.out);replace HM:=Z_ (show w8.ownsMap _ _ _ _ _ _ by rw [hw];exact own_map_setH HM.out NG.out);obtain ⟨hp_,_⟩:=rb_put HO.out kk hw;replace HO:=Z_ hp_;clear hp_ hw))
     have hw1 : IntKind.i64.wrap ((kk : Int) + 1) = (kk : Int) + 1:=by rw [i64_w,w64k (by omega) (by have:=HL4.out;omega)]
     go_roundg (l0.length - (kk + 1))
     case measure => omega
     case rel => exact ⟨kk + 1,by omega,by omega,(by first | rfl | (rw [hw1];push_cast;rfl) | (push_cast;rfl) | (simp [w64k,hw1];omega)),HM,HD,HS,⟨by rw [HMO.out];simpa using HO.out⟩,HB⟩
  have hltz : (kk : Int) < (l0.length : Int):=by omega
  have hltd : decide ((kk : Int) < (l0.length : Int)) = true:=decide_eq_true hltz
  have hkz : (kk : Int) < (l1.length : Int):=by have:=HKL.out;omega
  have hin:=mkOk_at HOK.out hlt
  obtain ⟨adk,ek,hkw⟩:=Kd.at_bool a6.out (kk : Int) (by omega) (by omega)
  subst ek
  rw [Int.toNat_natCast,show rdOf false l1 (kk : Int) = l1.getD kk false from rfl] at hkw
  have hv : mkHs l0 l1 (kk + 1) = if (rd_T83 l0 (kk : Int)).f0 = 6 ∧ l1.getD kk false = true then bput (mkHs l0 l1 kk) (rd_T83 l0 (kk : Int)).f1 else mkHs l0 l1 kk:=rfl
  generalize mkHs l0 l1 kk = mp at HS hv
  generalize l1.getD kk false = kb at hkw hv
  obtain ⟨ad,e,hy0,hy1,hy2,hy3⟩:=at_T83 a5.out (kk : Int) (by omega) (by omega)
  rw [Int.toNat_natCast] at hy0 hy1 hy2 hy3
  subst e
  generalize rd_T83 l0 (kk : Int) = x at hy0 hy1 hy2 hy3 hin hv
  have HY:=Z_ (And.intro hy0 (And.intro hy1 (And.intro hy2 hy3)))
  replace hy0:=cB_ HB hy0
  replace hy1:=cB_ HB hy1
  replace hy2:=cB_ HB hy2
  replace hy3:=cB_ HB hy3
  have HIN:=Z_ hin
  have HKW:=Z_ hkw
  clear hin hkw
  go_upto_region 5 with (go_big_may;first | ((with_reducible refine gD_ 8 rfl ?_);refine bx_ #[.int .i64 0,.int .i64 0,.int .i64 0,.int .i64 0] 83 ?_;intro g5 hg w3 hbox hb;have a4:=Z_ (show w.heap.size ≤ g5 by rw [hg];exact below_size HB.out);have NE5:=Z_ (show B ≠ g5 by rw [hg];exact Nat.ne_of_lt HM.out.lt);replace HM:=Z_ (own_map_belowH HM.out hb);replace HO:=Z_ (Kd.R_below HO.out hb);replace HB:=Z_ (lP_ HB.out hb);have BK:=Z_ hbox;clear hb hbox hg hy0 hy1 hy2 hy3;have hy0:=cB_ HB HY.out.1;have hy1:=cB_ HB HY.out.2.1;have hy2:=cB_ HB HY.out.2.2.1;have hy3:=cB_ HB HY.out.2.2.2;obtain ⟨_,_,_,_,_,_,_,_⟩:=bc4H BK.out))
  (try simp only [Act.put,lA_,lZ_,lS_])
  have n0_:=Z_ (blk_put (blk_put (blk_put (blk_put BK.out 0 (.int .i64 x.f0) rfl) 1 (.int .i64 x.f1) rfl) 2 (.int .i64 x.f2) rfl) 3 (.int .i64 x.f3) rfl)
  replace HM:=Z_ (own_map_setH (p:=⟨g5,3,none⟩) (u:=.int .i64 x.f3) (own_map_setH (p:=⟨g5,2,none⟩) (u:=.int .i64 x.f2) (own_map_setH (p:=⟨g5,1,none⟩) (u:=.int .i64 x.f1) (own_map_setH (p:=⟨g5,0,none⟩) (u:=.int .i64 x.f0) HM.out NE5.out) NE5.out) NE5.out) NE5.out)
  replace HO:=Z_ (R_set4 (a0:=.int .i64 x.f0) (a1:=.int .i64 x.f1) (a2:=.int .i64 x.f2) (a3:=.int .i64 x.f3) HO.out BK.out (by decide))
  replace HB:=Z_ (lS1_ (j:=3) (v:=.int .i64 x.f3) (lS1_ (j:=2) (v:=.int .i64 x.f2) (lS1_ (j:=1) (v:=.int .i64 x.f1) (lS1_ (j:=0) (v:=.int .i64 x.f0) HB.out a4.out) a4.out) a4.out) a4.out)
  clear BK hy0 hy1 hy2 hy3
  have BK:=n0_
  clear n0_
  generalize (w3.setCell ⟨g5,0,none⟩ (.int .i64 x.f0) |>.setCell ⟨g5,1,none⟩ (.int .i64 x.f1) |>.setCell ⟨g5,2,none⟩ (.int .i64 x.f2) |>.setCell ⟨g5,3,none⟩ (.int .i64 x.f3)) = w4 at BK HM HO HB ⊢
  obtain ⟨_,_,_,_,_,_,_,_⟩:=bc4H BK.out
  have hk0:=cB_ HB HKW.out
  have hw1 : IntKind.i64.wrap ((kk : Int) + 1) = (kk : Int) + 1:=by rw [i64_w,w64k (by omega) (by have:=HL4.out;omega)]
  by_cases q6 : x.f0 = 6
  rotate_left
  ·rw [if_neg (fun h => q6 h.1)] at hv
   obtain ⟨_,_,_⟩:=eqFH q6
   go_wp2
   go_roundg (l0.length - (kk + 1))
   case measure => omega
   case rel => exact ⟨kk + 1,m,D,by omega,by omega,(by first | rfl | (rw [hw1];push_cast;rfl) | (push_cast;rfl)),by omega,HM,HD,⟨by rw [hv];exact HS.out⟩,HO,HB⟩
  obtain ⟨_,_,_⟩:=eqTH q6
  cases kb with
  | false =>
   rw [if_neg (fun h => by simp at h)] at hv
   go_wp2
   go_roundg (l0.length - (kk + 1))
   case measure => omega
   case rel => exact ⟨kk + 1,m,D,by omega,by omega,(by first | rfl | (rw [hw1];push_cast;rfl) | (push_cast;rfl)),by omega,HM,HD,⟨by rw [hv];exact HS.out⟩,HO,HB⟩
  | true =>
   rw [if_pos ⟨q6,rfl⟩] at hv
   have HWF:=Z_ (wf_of_place (x:=x.f1) (n:=l0.length) (by have:=HIN.out;simp [mkIn] at this;omega) (by have:=HIN.out;simp [mkIn] at this;omega) HL4.out)
   go_wp2_with (first | (at_mapUpdate;refine wpList_mapUpdate_own (H:=Unit) _ rfl (.tmp 31) (.tmp 33) (.const (.bool true)) 124 rfl 2 4 int_kdH Tryz.underlying124 (plainElem Tryz.prog 4) B m D rfl HM.out (by show m < 9223372036854775807;have:=HL4.out;omega) _ _ (.int .i64 x.f1) rfl rfl (Go.Maps.keyOf_int_mk Tryz.underlying2 HWF.out) (.lit (.bool true)) [] (plainElem_bool Tryz.underlying4 true) ?_;intro w7 ho7 hg7;replace HO:=Z_ (R_grown_mapH HO.out hg7 (own_mapH_is HM.out));replace HB:=Z_ (pw_below_grown HB.out (some B) (below_size HB.out) hg7 (fun k hk => by injection hk with hk;rw [← hk];exact GB.out));clear HM;have HM:=Z_ ho7;clear ho7 hg7))
   go_roundg (l0.length - (kk + 1))
   case measure => omega
   case rel => exact ⟨kk + 1,m + 1,D.put (.int .i64 x.f1) (.lit (.bool true)),by omega,by omega,(by first | rfl | (rw [hw1];push_cast;rfl) | (push_cast;rfl)),by omega,HM,⟨HD.out.put _ _⟩,⟨by rw [hv];exact mbd_put HS.out HD.out HWF.out⟩,HO,HB⟩
end Go.Proofs.YtcafikgabidphaaGreat.G
namespace Go.Proofs.YtcafikgabidphaaGreat.G
open Go.RowKit Go.Proofs.YtcafikgabidphaaGreatW.PrintWords Go.Proofs.YtcafikgabidphaaGreatW.PrintLast Go.Proofs.YtcafikgabidphaaGreatW.PrintMore
attribute [local go_sem] max2_int min2_int max_two min_two max_three min_three max_four min_four   -- for this text's walks alone
set_option linter.unusedVariables false
set_option linter.unusedSimpArgs false
def slices_Clone_bool_bool.f (l0 : List (Bool)) : Option (List (Bool)):=if l0.length * 1 ≤ 140737488355328 then some l0 else none
set_option maxHeartbeats 4000000 in
set_option maxRecDepth 100000 in
theorem slices_Clone_bool_bool.calls (A0 : Option Addr) (c0 : Nat) (l0 r : List (Bool)) (w : World) (hr0 : Kd.C Kd.bool w A0 l0.length l0) (hc0 : l0.length ≤ c0) (h : slices_Clone_bool_bool.f l0 = some r) :
    Calls Tryz.prog 86 #[.slice A0 l0.length c0] w fun e w' => ∃ v0_ : Value,e = .returned (v0_) ∧ Kd.R Kd.bool 4 w' w.heap.size (fun _ => True) v0_ r ∧ Below w.heap.size w w':=by
 unfold slices_Clone_bool_bool.f at h
 by_cases hb : l0.length * 1 ≤ 140737488355328
 ·rw [if_pos hb] at h
  obtain rfl:=Option.some.inj h
  clear h
  have HL:=Z_ hb
  clear hb
  rcases A0 with _ | ad
  ·obtain rfl : l0 = []:=by
     rcases Nat.eq_zero_or_pos l0.length with h0 | h0
     · exact List.eq_nil_of_length_eq_zero h0
     · obtain ⟨_,h,_⟩:=hr0.2.2 h0
       cases h
   have hq:=fun (W : World) => Lib.run_eql_slice_nil (P:=Tryz.prog) W 57 4 none 0 c0 0 0 Tryz.underlying57
   clear hr0
   go_enter Tryz.func86,Tryz.ntmps86
   go_wp2
   go_ret
   exact ⟨_,rfl,Kd.R_nil _ _ _ _ _,Below.refl _ _⟩
  ·have HR:=Z_ hr0
   clear hr0
   have HB:=Z_ (Below.refl w.heap.size w)
   have hq:=fun (W : World) => Lib.run_eql_slice_nil (P:=Tryz.prog) W 57 4 (some ad) l0.length c0 0 0 Tryz.underlying57
   go_enter Tryz.func86,Tryz.ntmps86
   go_wp2_with (first | ((with_reducible refine gD_ 5 rfl ?_);refine Kd.R_lit Kd.bool _ 4 ?hg (N:=5) ?hd (xs:=([] : List (Bool))) (inner:=[]) (ok:=fun _ => True) (okp:=fun _ => True) ?hr ?hp (fun _ hk => hk) trivial (Below.refl _ _) (Nat.le_refl _) (by simp) ?_;(case hd => rfl);(case hg => rfl);(case hr => first | (go_simp;done) | (go_simp;rfl));(case hp => exact (Reps.none _ _));intro v103 w3 ho4 hb hg_ hnew_;clear hg_ hnew_;have HO104:=Z_ (Kd.R_lower ho4 (below_size HB.out));replace HR:=Z_ (Kd.C_below HR.out (by first | exact hb | exact lP_ HB.out hb));replace HB:=Z_ (lP_ HB.out hb);clear hb ho4) | ((with_reducible refine gate_builtin (b:=.append) (xs:=#[.tmp 5,.tmp 6]) rfl ?_);at_builtin;refine Kd.R_append_rows Kd.bool (Rr:=Kd.bool.K w3) (w0:=w) w.heap.size rfl (.tmp 5) (.tmp 6) 57 4 (.bool false) 1 rfl Tryz.underlying57 info4 rfl (by decide) (by omega) v103 [] l0 (some ad) l0.length c0 (fun _ => True) (fun _ => False) rfl rfl ?aO ?aR (fun _ _ h => h) (fun _ hk => hk.elim) (fun _ _ => trivial) ?aB ?aS ?aL ?_;(case aO => exact HO104.out);(case aR => exact HR.out);(case aB => exact HB.out);(case aS => exact below_size HB.out);(case aL => have:=HL.out;simp;omega);intro v106 w10 ho hb hg hat;replace HB:=Z_ (hb);have HO107:=Z_ (ho);clear HO104 ho hb hg hat))
   go_ret
   exact ⟨_,rfl,HO107.out,HB.out⟩
 ·rw [if_neg hb] at h;cases h
end Go.Proofs.YtcafikgabidphaaGreat.G
namespace Go.Proofs.YtcafikgabidphaaGreat.G
open Go.RowKit Go.Proofs.YtcafikgabidphaaGreatW.PrintWords Go.Proofs.YtcafikgabidphaaGreatW.PrintLast Go.Proofs.YtcafikgabidphaaGreatW.PrintMore
attribute [local go_sem] max2_int min2_int max_two min_two max_three min_three max_four min_four   -- for this text's walks alone
set_option linter.unusedVariables false
set_option linter.unusedSimpArgs false
section
open Go.Shelf
attribute [local go_sem] Oper.semAt_some
theorem add_blockT_ (a : Addr) (j : Nat) : (a.add j).block = a.block:=by unfold Addr.add;split <;> rfl
theorem cell_blockT_ {A B : World} {p : Addr} (h : B.heap[p.block]? = A.heap[p.block]?) : B.cell? p = A.cell? p:=by simp only [World.cell?,h]
set_option maxRecDepth 100000 in
set_option maxHeartbeats 2000000 in
theorem backward1T_in (n : Nat) (hn : 1 ≤ n) (l Bs cap : Nat) (A : Option Addr) (ad : Addr) (zs : List S83) (hz : zs.length ≤ 9223372036854775807) (J Jx : List Nat → World → Prop)
    (hY : ∀ pre x W,J pre W → pre.length < zs.length → YieldAt Fence.wide (n - 1) Tryz.prog l #[.int .i64 ((zs.length - 1 - x : Nat) : Int),.agg #[.int .i64 (rd_T83 zs ((zs.length - 1 - x : Nat) : Int)).f0,.int .i64 (rd_T83 zs ((zs.length - 1 - x : Nat) : Int)).f1,.int .i64 (rd_T83 zs ((zs.length - 1 - x : Nat) : Int)).f2,.int .i64 (rd_T83 zs ((zs.length - 1 - x : Nat) : Int)).f3]] W fun e W' =>
      (e = .returned (.bool true) ∧ J (pre ++ [x]) W' ∧ (W'.heap[Bs]? = W.heap[Bs]? ∧ W'.heap[ad.block]? = W.heap[ad.block]?)) ∨ (e = .returned (.bool false) ∧ Jx (pre ++ [x]) W'))
    (W : World) (hA : 0 < zs.length → A = some ad) (hBs : W.cell? ⟨Bs,0,none⟩ = some (.slice A zs.length cap)) (hc : ∀ j,j < zs.length → (W.cell? (ad.add (j * 4)) = some (.int .i64 (rd_T83 zs ((j : Nat) : Int)).f0) ∧ W.cell? ⟨(ad.add (j * 4)).block,(ad.add (j * 4)).off + 1,none⟩ = some (.int .i64 (rd_T83 zs ((j : Nat) : Int)).f1) ∧ W.cell? ⟨(ad.add (j * 4)).block,(ad.add (j * 4)).off + 2,none⟩ = some (.int .i64 (rd_T83 zs ((j : Nat) : Int)).f2) ∧ W.cell? ⟨(ad.add (j * 4)).block,(ad.add (j * 4)).off + 3,none⟩ = some (.int .i64 (rd_T83 zs ((j : Nat) : Int)).f3))) (h0 : J [] W) :
    CallsIn Fence.wide n Tryz.prog 104 #[.func (.yield l) #[] #[],.pointer (some ⟨Bs,0,none⟩)] W fun e W' => (∃ v,e = .returned v) ∧
      ((∃ ys,ys = List.range zs.length ∧ J ys W') ∨ (∃ pre,True ∧ Jx pre W')):=by
  refine callsIn_of_wp Tryz.func104 rfl trivial ?_ rfl
  simp only [Tryz.ntmps104,List.size_toArray,List.length_cons,List.length_nil,Nat.reduceAdd,Nat.reduceSub,Array.replicate_succ,Array.replicate_zero,List.push_toArray,List.append_toArray,List.nil_append,List.cons_append]
  gi_wp2
  gi_loopw [3] (fun i wr => ∃ k : Nat,k ≤ zs.length ∧ i = .int .i64 ((zs.length : Int) - 1 - k) ∧ J (List.range k) wr ∧ (wr.heap[Bs]? = W.heap[Bs]? ∧ wr.heap[ad.block]? = W.heap[ad.block]?))
    (fun i _ => (intOf i + 1).toNat)
  case atStart => exact ⟨0,Nat.zero_le _,by first | (simp;done) | (congr 1;unfold wrap64;omega),h0,rfl,rfl⟩
  case round =>
    obtain ⟨k,hk,rfl,hJs,hnx1,hnx2⟩:=hrel
    have hBr : wr.cell? ⟨Bs,0,none⟩ = some (.slice A zs.length cap):=by rw [← hBs];simp only [World.cell?,hnx1]
    by_cases hlt : k < zs.length
    · obtain rfl:=hA (by omega)
      obtain ⟨fn,tmps,assign,body,hy,hR⟩:=hY _ k wr hJs (by rw [List.length_range];exact hlt)
      try dsimp only at hy
      obtain ⟨hd0,hd1,hd2,hd3⟩:=hc (zs.length - 1 - k) (by omega)
      replace hd0:=(cell_blockT_ (A:=W) (B:=wr) (p:=(ad.add ((zs.length - 1 - k) * 4))) (by first | (rw [add_blockT_];exact hnx2) | (show wr.heap[(ad.add ((zs.length - 1 - k) * 4)).block]? = W.heap[(ad.add ((zs.length - 1 - k) * 4)).block]?;rw [add_blockT_];exact hnx2))).trans hd0
      replace hd1:=(cell_blockT_ (A:=W) (B:=wr) (p:=⟨(ad.add ((zs.length - 1 - k) * 4)).block,(ad.add ((zs.length - 1 - k) * 4)).off + 1,none⟩) (by first | (rw [add_blockT_];exact hnx2) | (show wr.heap[(ad.add ((zs.length - 1 - k) * 4)).block]? = W.heap[(ad.add ((zs.length - 1 - k) * 4)).block]?;rw [add_blockT_];exact hnx2))).trans hd1
      replace hd2:=(cell_blockT_ (A:=W) (B:=wr) (p:=⟨(ad.add ((zs.length - 1 - k) * 4)).block,(ad.add ((zs.length - 1 - k) * 4)).off + 2,none⟩) (by first | (rw [add_blockT_];exact hnx2) | (show wr.heap[(ad.add ((zs.length - 1 - k) * 4)).block]? = W.heap[(ad.add ((zs.length - 1 - k) * 4)).block]?;rw [add_blockT_];exact hnx2))).trans hd2
      replace hd3:=(cell_blockT_ (A:=W) (B:=wr) (p:=⟨(ad.add ((zs.length - 1 - k) * 4)).block,(ad.add ((zs.length - 1 - k) * 4)).off + 3,none⟩) (by first | (rw [add_blockT_];exact hnx2) | (show wr.heap[(ad.add ((zs.length - 1 - k) * 4)).block]? = W.heap[(ad.add ((zs.length - 1 - k) * 4)).block]?;rw [add_blockT_];exact hnx2))).trans hd3
      generalize hxk : rd_T83 zs ((zs.length - 1 - k : Nat) : Int) = xk at hd0 hd1 hd2 hd3 hy hR
      have hi : (zs.length : Int) - 1 - k = ((zs.length - 1 - k : Nat) : Int):=by omega
      rw [hi]
      have hge : decide (((zs.length - 1 - k : Nat) : Int) ≥ 0) = true:=decide_eq_true (by omega)
      have hlt2 : ((zs.length - 1 - k : Nat) : Int) < (zs.length : Int):=by omega
      gi_wp2
      refine hR.mono ?_
      rintro e W3 (⟨rfl,hJ3,hk3,hk4⟩ | ⟨rfl,hJx3⟩)
      · gi_wp2
        go_roundw
        case rel => exact ⟨k + 1,by omega,by first | (congr 1;first | omega | (unfold wrap64;omega)) | (simp;omega),by rw [List.range_succ];exact hJ3,hk3.trans hnx1,hk4.trans hnx2⟩
        case measure => first | (simp [intOf];done) | (simp [intOf];omega)
      · gi_wp2
        refine bodyPost_ret (results_none rfl _ _ _) rfl ?_
        exact ⟨⟨_,rfl⟩,.inr ⟨_,trivial,hJx3⟩⟩
    · obtain rfl : k = zs.length:=by omega
      have hi : (zs.length : Int) - 1 - (zs.length : Int) = -1:=by omega
      rw [hi]
      gi_wp2
      go_end0
      exact ⟨⟨_,rfl⟩,.inl ⟨_,rfl,hJs⟩⟩
set_option maxHeartbeats 1000000 in
theorem backwardT_in (a : Option Addr) (len cap : Nat) (w : World) :
    Calls Tryz.prog 87 #[.slice a len cap] w fun e w' => e = .returned (.func (.func 104) #[] #[.pointer (some ⟨w.heap.size,0,none⟩)]) ∧ w' = w.alloc (.cells #[.slice a len cap] 30):=by
  have hmf : ∀ (fn : Fn) (first cap : Array Value) (w : World),(Instr.makeFunc fn first cap).run Tryz.prog w = .ok (.func fn first cap) w:=fun _ _ _ _ => rfl
  go_enter Tryz.func87,Tryz.ntmps87
  go_wp2
  go_ret
  exact ⟨rfl,rfl⟩
theorem backwardT_stops (n : Nat) (hn : 1 ≤ n) (Bs cap : Nat) (A : Option Addr) (ad : Addr) (zs : List S83) (hz : zs.length ≤ 9223372036854775807) (w : World) (hA : 0 < zs.length → A = some ad) (hBs : w.cell? ⟨Bs,0,none⟩ = some (.slice A zs.length cap)) (hb : ad.block < w.heap.size) (hc : ∀ j,j < zs.length → (w.cell? (ad.add (j * 4)) = some (.int .i64 (rd_T83 zs ((j : Nat) : Int)).f0) ∧ w.cell? ⟨(ad.add (j * 4)).block,(ad.add (j * 4)).off + 1,none⟩ = some (.int .i64 (rd_T83 zs ((j : Nat) : Int)).f1) ∧ w.cell? ⟨(ad.add (j * 4)).block,(ad.add (j * 4)).off + 2,none⟩ = some (.int .i64 (rd_T83 zs ((j : Nat) : Int)).f2) ∧ w.cell? ⟨(ad.add (j * 4)).block,(ad.add (j * 4)).off + 3,none⟩ = some (.int .i64 (rd_T83 zs ((j : Nat) : Int)).f3))) :
    SeqStopsK Fence.wide n Tryz.prog 104 #[.pointer (some ⟨Bs,0,none⟩)] (fun x : Nat => #[Value.int .i64 ((zs.length - 1 - x : Nat) : Int),.agg #[.int .i64 (rd_T83 zs ((zs.length - 1 - x : Nat) : Int)).f0,.int .i64 (rd_T83 zs ((zs.length - 1 - x : Nat) : Int)).f1,.int .i64 (rd_T83 zs ((zs.length - 1 - x : Nat) : Int)).f2,.int .i64 (rd_T83 zs ((zs.length - 1 - x : Nat) : Int)).f3]]) (fun A B => B.heap[Bs]? = A.heap[Bs]? ∧ B.heap[ad.block]? = A.heap[ad.block]?) (fun ys => ys = List.range zs.length) (fun _ => True) zs.length w:=fun l J Jx W hW _ _ hY h0 => by
  have hBs':=(hW.cell (p:=⟨Bs,0,none⟩) (World.block_lt_of_cell? w _ hBs)).trans hBs
  refine (backward1T_in n hn l Bs cap A ad zs hz J Jx hY W hA hBs' (fun j hj => ⟨(hW.cell (by rw [add_blockT_];exact hb)).trans (hc j hj).1,(hW.cell (by show (ad.add (j * 4)).block < _;rw [add_blockT_];exact hb)).trans (hc j hj).2.1,(hW.cell (by show (ad.add (j * 4)).block < _;rw [add_blockT_];exact hb)).trans (hc j hj).2.2.1,(hW.cell (by show (ad.add (j * 4)).block < _;rw [add_blockT_];exact hb)).trans (hc j hj).2.2.2⟩) h0).mono ?_
  rintro e W' ⟨he,⟨ys,rfl,hj⟩ | ⟨pre,_,hj⟩⟩
  · exact ⟨he,.inl ⟨_,rfl,hj⟩⟩
  · exact ⟨he,.inr ⟨_,trivial,hj⟩⟩
end
end Go.Proofs.YtcafikgabidphaaGreat.G
namespace Go.Proofs.YtcafikgabidphaaGreat.G
open Go.RowKit Go.Proofs.YtcafikgabidphaaGreatW.PrintWords Go.Proofs.YtcafikgabidphaaGreatW.PrintLast Go.Proofs.YtcafikgabidphaaGreatW.PrintMore
attribute [local go_sem] max2_int min2_int max_two min_two max_three min_three max_four min_four   -- for this text's walks alone
set_option linter.unusedVariables false
set_option linter.unusedSimpArgs false
def slices_Equal_bool_bool.l0 : Nat → List Bool → List Bool → Int → Int → Option (Bool)
 | 0,_,_,_,_ => none
 | k + 1,x0,x1,x12,x13 => if x13 < x12 then (if 0 ≤ x13 then (if x13 < (x0.length : Int) then (if x13 < (x1.length : Int) then (if ((rdOf false x0 x13) != (rdOf false x1 x13)) = true then (some false) else (slices_Equal_bool_bool.l0 k x0 x1 x12 (wrap64 (x13 + 1)))) else (none)) else (none)) else (none)) else (some true)
def slices_Equal_bool_bool.f (k : Nat) (l0 : List Bool) (l1 : List Bool) : Option (Bool):=if (l0.length : Int) = (l1.length : Int) then (slices_Equal_bool_bool.l0 k l0 l1 (l0.length : Int) 0) else (some false)
set_option maxHeartbeats 8000000 in
set_option maxRecDepth 100000 in
theorem slices_Equal_bool_bool.calls (k : Nat) (A0 : Option Addr) (c0 : Nat) (l0 : List Bool) (A1 : Option Addr) (c1 : Nat) (l1 : List Bool) (r : Bool) (w : World) (hr0 : Kd.C Kd.bool w A0 l0.length l0) (hc0 : l0.length ≤ c0) (hr1 : Kd.C Kd.bool w A1 l1.length l1) (hc1 : l1.length ≤ c1) (h : slices_Equal_bool_bool.f k l0 l1 = some r) :
  Calls Tryz.prog 88 #[.slice A0 l0.length c0,.slice A1 l1.length c1] w fun e w' => e = .returned (.bool r) ∧ Drawn0 w w':=by
 have a0:=Z_ hr0
 have a2:=Z_ hc0
 clear hr0 hc0
 have a1:=Z_ hr1
 have a3:=Z_ hc1
 clear hr1 hc1
 unfold slices_Equal_bool_bool.f at h
 have H:=h
 clear h
 replace H:=iC_ H
 obtain ⟨c3,H⟩ | ⟨c3,H⟩:=H
 rotate_left
 ·have c3b0 : ((l0.length : Int) == (l1.length : Int)) = false:=beq_eq_false_iff_ne.mpr c3
  have c3b1 : ((l0.length : Int) != (l1.length : Int)) = true:=bne_iff_ne.mpr c3
  have c3b2 : (l0.length == l1.length) = false:=by first | simpa using c3 | (simp at c3 ⊢;omega)
  obtain rfl:=Option.some.inj H
  go_enter Tryz.func88,Tryz.ntmps88
  go_wp2
  repeat (go_quiet (fail);try go_wp2)
  go_ret
  exact ⟨by first | rfl | (simp;done) | (simp [*];done),by repeat (first | exact Drawn0.refl _ | apply Drawn0.step)⟩
 rotate_right
 have c3b0 : ((l0.length : Int) == (l1.length : Int)) = true:=beq_iff_eq.mpr c3
 have c3b1 : ((l0.length : Int) != (l1.length : Int)) = false:=bne_eq_false_iff_eq.mpr c3
 have c3b2 : (l0.length == l1.length) = true:=by first | simpa using c3 | (simp at c3 ⊢;omega)
 clear c3
 have H':=Z_ H
 clear H
 go_enter Tryz.func88,Tryz.ntmps88
 go_wp2
 repeat (go_quiet (fail);try go_wp2)
 go_loopg [13] k (fun kq v13 w' => ∃ (x13_1 : Int),v13 = .int .i64 x13_1 ∧ Aside0 (slices_Equal_bool_bool.l0 kq l0 l1 (l0.length : Int) x13_1 = some r) ∧ Aside0 (kq ≤ k) ∧ Drawn0 w w')
 case atStart => exact ⟨(0),Sr_,H',⟨Nat.le_refl _⟩,by repeat (first | exact Drawn0.refl _ | apply Drawn0.step)⟩
 case round =>
  clear H'
  try clear c1
  try clear p2
  try clear c3
  try clear c3b0
  try clear c3b1
  try clear c3b2
  obtain ⟨x13_1,rfl,HA,HK1,⟨m1,rfl⟩⟩:=hrel
  cases gk with
  | zero => exact absurd HA.out (by simp [slices_Equal_bool_bool.l0])
  | succ k1 =>
   have H:=HA.out
   clear HA
   simp only [slices_Equal_bool_bool.l0] at H
   replace H:=iD_ H
   obtain ⟨c4b0,H⟩ | ⟨c4b0,H⟩:=H
   rotate_left
   ·obtain rfl:=Option.some.inj H
    go_wp2
    repeat (go_quiet (fail);try go_wp2)
    go_ret
    exact ⟨by first | rfl | (simp;done) | (simp [*];done),by repeat (first | exact Drawn0.refl _ | apply Drawn0.step)⟩
   rotate_right
   replace H:=iM_ H
   obtain ⟨c5b0,H⟩:=H
   replace H:=iM_ H
   obtain ⟨c6b0,H⟩:=H
   replace H:=iM_ H
   obtain ⟨c7b0,H⟩:=H
   replace H:=iC_ H
   obtain ⟨c8,H⟩ | ⟨c8,H⟩:=H
   ·have c8b0 : ((rdOf false l0 x13_1) != (rdOf false l1 x13_1)) = true:=c8
    (try (have c8b1 : decide ((rdOf false l0 x13_1) = (rdOf false l1 x13_1)) = false:=by simpa using c8))
    (try (have c8b2 : ((rdOf false l0 x13_1) == (rdOf false l1 x13_1)) = false:=by simpa using c8))
    (try (have c8b3 : ¬ ((rdOf false l0 x13_1) = (rdOf false l1 x13_1)):=by simpa using c8))
    clear c8
    obtain rfl:=Option.some.inj H
    have p413 : 0 ≤ (x13_1 : Int):=dA_
    have q413 : x13_1 < (l0.length : Int):=dA_
    obtain ⟨ad413,e413,hx413_0⟩:=Kd.at_bool a0.out x13_1 p413 q413
    cases e413
    replace p413:=eq_true p413
    replace q413:=eq_true q413
    have p414 : 0 ≤ (x13_1 : Int):=dA_
    have q414 : x13_1 < (l1.length : Int):=dA_
    obtain ⟨ad414,e414,hx414_0⟩:=Kd.at_bool a1.out x13_1 p414 q414
    cases e414
    replace p414:=eq_true p414
    replace q414:=eq_true q414
    go_wp2
    repeat (go_quiet (fail);try go_wp2)
    go_ret
    exact ⟨by first | rfl | (simp;done) | (simp [*];done),by repeat (first | exact Drawn0.refl _ | apply Drawn0.step)⟩
   have c8b0 : ((rdOf false l0 x13_1) != (rdOf false l1 x13_1)) = false:=by simpa using c8
   (try (have c8b1 : decide ((rdOf false l0 x13_1) = (rdOf false l1 x13_1)) = true:=by simpa using c8))
   (try (have c8b2 : ((rdOf false l0 x13_1) == (rdOf false l1 x13_1)) = true:=by simpa using c8))
   clear c8
   have H':=Z_ H
   clear H
   have p413 : 0 ≤ (x13_1 : Int):=dA_
   have q413 : x13_1 < (l0.length : Int):=dA_
   obtain ⟨ad413,e413,hx413_0⟩:=Kd.at_bool a0.out x13_1 p413 q413
   cases e413
   replace p413:=eq_true p413
   replace q413:=eq_true q413
   have p414 : 0 ≤ (x13_1 : Int):=dA_
   have q414 : x13_1 < (l1.length : Int):=dA_
   obtain ⟨ad414,e414,hx414_0⟩:=Kd.at_bool a1.out x13_1 p414 q414
   cases e414
   replace p414:=eq_true p414
   replace q414:=eq_true q414
   go_wp2
   repeat (go_quiet (fail);try go_wp2)
   go_roundg k1
   case measure => have:=HK1.out;omega
   case rel => exact ⟨(wrap64 (x13_1 + 1)),Sr_,H',⟨by have:=HK1.out;omega⟩,by repeat (first | exact Drawn0.refl _ | apply Drawn0.step)⟩
end Go.Proofs.YtcafikgabidphaaGreat.G
namespace Go.Proofs.YtcafikgabidphaaGreat.G
open Go.RowKit Go.Proofs.YtcafikgabidphaaGreatW.PrintWords Go.Proofs.YtcafikgabidphaaGreatW.PrintLast Go.Proofs.YtcafikgabidphaaGreatW.PrintMore
attribute [local go_sem] max2_int min2_int max_two min_two max_three min_three max_four min_four   -- for this text's walks alone
set_option linter.unusedVariables false
set_option linter.unusedSimpArgs false
section
variable {P : Program} {ops : Array Oper} {Q : Exit → Act → World → Prop} {md : Region.Mode}
theorem oper_inRound {o : Oper} {a : Act} {w : World} {K : Act → World → Prop} (l n : Nat) (hd : ∀ c,o.op ≠ .defer c) (h : o.wp P a w K Q) : o.wpIn (Fence.wide.inRound l) n P a w K Q:=by
  refine ⟨fun _ _ => trivial,?_⟩
  rw [show (Fence.wide.inRound l).round = some l from rfl,Oper.semAt_some l _ _ hd]
  unfold Oper.wp at h
  generalize (execOp a.eval o).run P w = r at h ⊢
  have hn : ((Fence.wide.inRound l).depth.isSome = true → 1 ≤ n):=fun h => by cases h
  cases r with
  | ok x w' =>
    cases x <;> simp only [Oper.upon,Oper.uponIn] at h ⊢ <;> first
      | exact h
      | exact ⟨hn,CallsIn.inRound l (callsIn_wide.2 h)⟩
      | exact ⟨hn,fun c cs _ => by obtain ⟨v,w2,r,s⟩:=h c cs;exact ⟨v,w2,r,stepsIn_wide.2 s⟩⟩
  | halt x w' => cases x <;> simp only [Oper.upon,Oper.uponIn] at h ⊢ <;> exact h
theorem any_inRound (l n : Nat) (hd : ∀ (i : Nat) (o : Oper) (c : Call),ops[i]? = some o → o.op ≠ .defer c) (hL : ¬ LetsOut Q) : ∀ (fuel : Nat) (listed : Array Bool) (a : Act) (w : World),wpAny P md ops Q fuel listed a w → wpAnyIn (Fence.wide.inRound l) n P md ops Q fuel listed a w
  | 0,_,_,_,h => h
  | fuel + 1,listed,a,w,h => ⟨h.1,fun i hi => by
    have h2:=h.2 i hi
    unfold wpOp at h2
    unfold wpOpIn
    cases ho : ops[i]? with
    | none => rw [ho] at h2;exact any_inRound l n hd hL fuel _ a w h2
    | some o =>
      rw [ho] at h2
      dsimp only at h2 ⊢
      split
      · rename_i hw
        rw [if_pos hw] at h2
        rcases h2 with h2 | ⟨_,h2⟩
        · exact Oper.wpIn_mono (fun a' w' h3 => any_inRound l n hd hL fuel _ a' w' h3) (oper_inRound l n (fun c => hd i o c ho) h2)
        · exact absurd h2 hL
      · rename_i hw
        rw [if_neg hw] at h2
        exact ⟨fun _ _ => trivial,any_inRound l n hd hL fuel _ _ w h2⟩⟩
def noDefer (ops : Array Oper) : Bool:=ops.all fun o => match o.op with | .defer _ => false | _ => true
theorem startR_ {S : World → Prop} {ds : List Nat} {id n r m : Nat} {a : Act} {w : World} (l : Array Bool) (hm : P.follows .mixedOrders = true) (hn : ops.size = n) (hl : Array.replicate n false = l) (hS : S w.drew) (hd : noDefer ops = true) (hL : ¬ LetsOut Q)
    (h : S w.drew → wpAnyLast P .any ops Q S ds n l a w.drew) : (Code.region id ops true).wpIn (Fence.wide.inRound r) m P Q a w:=by
  subst hn
  subst hl
  refine wpIn_region_any hm (any_inRound r m (fun i o c ho hc => ?_) hL _ _ _ _ (wpAny_of_last _ _ _ _ (h hS)))
  have:=(Array.all_eq_true.1 hd) i (Array.getElem?_eq_some_iff.1 ho).1
  rw [(Array.getElem?_eq_some_iff.1 ho).2,hc] at this
  cases this
end
section
open Go.Shelf
attribute [local go_sem] Oper.semAt_some
def opT (can out : List Bool) (i : Nat) (x : S83) : List Bool:=if out.getD i false = true then (if x.f0 = 3 then (out.set x.f1.toNat true).set x.f2.toNat true else if x.f0 = 5 ∧ ob can x.f1 = true then out.set x.f2.toNat true else out) else out
def opC (l : List S83) (out : List Bool) : List Bool:=mkO l out (mkHs l out l.length) l.length
def opS (l : List S83) (can out : List Bool) (j : Nat) : List Bool:=opT can out (l.length - 1 - j) (rd_T83 l ((l.length - 1 - j : Nat) : Int))
def opRnd (l : List S83) (out : List Bool) : List Bool:=(List.range l.length).foldl (opS l (opC l out)) out
def opL (l : List S83) : Nat → List Bool → Option (List Bool)
  | 0,_ => none
  | k + 1,out => if out = opRnd l out then some (opRnd l out) else opL l k (opRnd l out)
theorem opT_length (can out : List Bool) (i : Nat) (x : S83) : (opT can out i x).length = out.length:=by
  unfold opT
  split
  · split
    · simp
    · split <;> simp
  · rfl
theorem opF_length (l : List S83) (can : List Bool) : ∀ (xs : List Nat) (out : List Bool),(xs.foldl (opS l can) out).length = out.length
  | [],_ => rfl
  | x :: xs,out => by rw [List.foldl_cons,opF_length l can xs];exact opT_length _ _ _ _
theorem opC_length (l : List S83) (out : List Bool) : (opC l out).length = l.length:=mkO_length _ _ _ _
def impl_opened.f (k : Nat) (l0 : List S83) (l1 : List Int) : Option (List Bool) :=
  (impl_flags.f k l0 l1).bind fun is0 => if is0.length = l0.length ∧ mkOk l0 = true ∧ l0.length ≤ 400 then opL l0 k is0 else none
theorem bc1H {w : World} {g : Nat} {t : TypeId} {c0 : Value} (h : w.heap[g]? = some (.cells #[c0] t (0,0))) : w.cell? ⟨g,0,none⟩ = some c0 ∧ w.frozen? ⟨g,0,none⟩ = false:=⟨(blk_cell h 0).trans rfl,blk_frozen h 0⟩
theorem eqB_l (x y : List Bool) (he : x.length = y.length) (hx : x.length ≤ 400) : ∀ d i : Nat,x.length - i = d → i ≤ x.length → slices_Equal_bool_bool.l0 (d + 1) x y (x.length : Int) (i : Int) = some (decide (x.drop i = y.drop i))
  | 0,i,hd,hi => by
    obtain rfl : i = x.length:=by omega
    unfold slices_Equal_bool_bool.l0
    rw [if_neg (Int.lt_irrefl _)]
    simp [he]
  | d + 1,i,hd,hi => by
    have h1 : i < x.length:=by omega
    have h2 : i < y.length:=by omega
    unfold slices_Equal_bool_bool.l0
    rw [if_pos (show (i : Int) < (x.length : Int) by omega),if_pos (show (0 : Int) ≤ (i : Int) by omega),if_pos (show (i : Int) < (x.length : Int) by omega),if_pos (show (i : Int) < (y.length : Int) by omega)]
    rw [show wrap64 ((i : Int) + 1) = ((i + 1 : Nat) : Int) by unfold wrap64;omega,eqB_l x y he hx d (i + 1) (by omega) (by omega)]
    rw [List.drop_eq_getElem_cons h1,List.drop_eq_getElem_cons h2]
    have r1 : rdOf false x (i : Int) = x[i]:=by simp [rdOf,List.getD,h1]
    have r2 : rdOf false y (i : Int) = y[i]:=by simp [rdOf,List.getD,h2]
    rw [r1,r2]
    by_cases e : x[i] = y[i]
    · rw [if_neg (by simp [e])]
      exact congrArg some (decide_eq_decide.mpr ⟨fun h => by rw [e,h],fun h => (List.cons.inj h).2⟩)
    · rw [if_pos (by simpa using e)]
      exact congrArg some (decide_eq_false (fun h => e (List.cons.inj h).1)).symm
theorem eqB_f (x y : List Bool) (he : x.length = y.length) (hx : x.length ≤ 400) : slices_Equal_bool_bool.f (x.length + 1) x y = some (decide (x = y)):=by
  unfold slices_Equal_bool_bool.f
  rw [if_pos (by omega)]
  have:=eqB_l x y he hx x.length 0 (by omega) (by omega)
  simpa using this
def OpI (N g5 g7 N1 : Nat) (v5 v7 v6 : Value) (can bef : List Bool) (w : World) (out : List Bool) (W : World) : Prop:=W.heap[g5]? = some (.cells #[v5] 57 (0,0)) ∧ Kd.bool.R 4 W N (fun _ => True) v5 out ∧ W.heap[g7]? = some (.cells #[v7] 57 (0,0)) ∧ Kd.bool.R 4 W N1 (fun _ => True) v7 can ∧ Kd.bool.R 4 W N1 (fun _ => True) v6 bef ∧ Below N w W
theorem R_ownF {α : Type} {d : Kd α} {e base : Nat} {ok : Nat → Prop} {W W' : World} {v : Value} {xs : List α} {row : Option Nat} (h : d.R e W base ok v xs) (hg : W.grownBy W' row) (hr : ∀ r,row = some r → ∃ o : Obj,W.heap[r]? = some o ∧ o.isCells = false) : d.R e W' base ok v xs :=
  Kd.R_mono (Kd.R_grown (Kd.R_bound h) hg (fun k hk e' => by
    obtain ⟨_,_,_,q,_,cells,hc⟩:=hk
    obtain ⟨o,ho,h2⟩:=hr k e'.symm
    rw [hc] at ho
    cases ho
    cases h2)) (fun _ hk => hk.1)
theorem blk_ownF {W W' : World} {g t : Nat} {cs : Array Value} {row : Option Nat} (h : W.heap[g]? = some (.cells cs t (0,0))) (hg : W.grownBy W' row) (hr : ∀ r,row = some r → ∃ o : Obj,W.heap[r]? = some o ∧ o.isCells = false) : W'.heap[g]? = some (.cells cs t (0,0)) :=
  blk_grown h hg (fun e' => by
    obtain ⟨o,ho,h2⟩:=hr g e'.symm
    rw [h] at ho
    cases ho
    cases h2)
theorem opI_own {α : Type} {N g5 g7 N1 B : Nat} {v5 v7 v6 : Value} {can bef : List Bool} {w : World} (hN : N ≤ g5) (hB : N ≤ B) (f : α → List Bool) : OwnFrom B (fun s W => OpI N g5 g7 N1 v5 v7 v6 can bef w (f s) W):=by
  rintro s W W' row ⟨h1,h2,h3,h4,h5,h6⟩ hg hr
  have hr':=fun r e => (hr r e).2
  have:=blk_lt h1
  exact ⟨blk_ownF h1 hg hr',R_ownF h2 hg hr',blk_ownF h3 hg hr',R_ownF h4 hg hr',R_ownF h5 hg hr',pw_below_grown h6 row (by omega) hg (fun k e => by have:=(hr k e).1;omega)⟩
theorem opI_below {N g5 g7 N1 : Nat} {v5 v7 v6 : Value} {can bef out : List Bool} {w W W' : World} (h : OpI N g5 g7 N1 v5 v7 v6 can bef w out W) (hN : N ≤ g5) (hb : Below W.heap.size W W') : OpI N g5 g7 N1 v5 v7 v6 can bef w out W' :=
  ⟨bB_ h.1 hb,Kd.R_below h.2.1 hb,bB_ h.2.2.1 hb,Kd.R_below h.2.2.2.1 hb,Kd.R_below h.2.2.2.2.1 hb,h.2.2.2.2.2.trans (hb.mono (by have:=blk_lt h.1;omega))⟩
def mk_ (D : Nat) : Deferred:={ target:=.collected D,args:=#[] }
def opPost (P : Program) (fn : Func) (R : Ending → World → Prop) : Exit → Act → World → Prop
  | .ret,a,w => LeavesInM Fence.wide 6 P fn a.tmps R a.defers .returning w
  | _,_,_ => False
theorem wp_opPost {P : Program} {fn : Func} {R : Ending → World → Prop} {c : Code} {a : Act} {w : World} (h : c.wp P (opPost P fn R) a w) : c.wp P (bodyPostM Fence.wide 6 P fn R) a w:=wp_mono h (fun e a w q => by cases e <;> first | exact q | exact q.elim)
theorem leaves_marks {P : Program} {fn : Func} {tmps : Array Value} {R : Ending → World → Prop} {n : Nat} (Q : World → Prop) (N : Nat) (hQ : ∀ W D,Q W → N ≤ D → W.heap[D]? = some (.deferred (some [])) → Q (W.putObj D (.deferred none))) (hf : ∀ W',Q W' → ∃ v,(results fn tmps).run P W' = .ok v W' ∧ R (.returned v) W') : ∀ (Ds : List Nat) (W : World),Ds.Nodup → (∀ D ∈ Ds,N ≤ D ∧ W.heap[D]? = some (.deferred (some []))) → Q W → LeavesInM Fence.wide n P fn tmps R (Ds.map mk_) .returning W
  | [],W,_,_,h => hf W h
  | D :: Ds,W,hn,hm,h => by
    obtain ⟨hD,hmD⟩:=hm D (List.mem_cons_self ..)
    rw [List.nodup_cons] at hn
    refine ⟨by simp,.inl ⟨D,_,rfl,run_takeDeferred hmD,leaves_marks Q N hQ hf Ds _ hn.2 (fun D' h' => ?_) (hQ _ _ h hD hmD)⟩⟩
    obtain ⟨h1,h2⟩:=hm D' (List.mem_cons_of_mem _ h')
    exact ⟨h1,(World.putObj_heap_other (fun (e : D' = D) => hn.1 (by rw [← e];exact h'))).trans h2⟩
theorem opI_put {N g5 g7 N1 g n c : Nat} {v7 v6 : Value} {can bef out : List Bool} {w W : World} (h : OpI N g5 g7 N1 (.slice (some ⟨g,0,none⟩) n c) v7 v6 can bef w out W) (hg : g < N1) (hp : 0 < out.length) (i : Nat) : OpI N g5 g7 N1 (.slice (some ⟨g,0,none⟩) n c) v7 v6 can bef w (out.set i true) (W.setCell ⟨g,i,none⟩ (.bool true)):=by
  obtain ⟨h1,h2,h3,h4,h5,h6⟩:=h
  obtain ⟨g',_,e,hb,_,_⟩:=Kd.R_form h2 hp
  obtain rfl : g = g':=by injection e with e;injection e with e;injection e
  obtain ⟨k1,kg⟩:=rb_put h2 i rfl
  have n5:=Kd.R_ne h2 h1 (by decide)
  have n7:=Kd.R_ne h2 h3 (by decide)
  exact ⟨blk_grown h1 kg n5,k1,blk_grown h3 kg n7,Kd.R_mono (Kd.R_grown (Kd.R_bound h4) kg (fun k hk e' => by injection e' with e';have:=hk.2.1;omega)) (fun _ hk => hk.1),Kd.R_mono (Kd.R_grown (Kd.R_bound h5) kg (fun k hk e' => by injection e' with e';have:=hk.2.1;omega)) (fun _ hk => hk.1),h6.setCell (p:=⟨g,i,none⟩) hb _⟩
set_option maxHeartbeats 8000000 in
set_option maxRecDepth 100000 in
theorem impl_opened.calls (k : Nat) (A0 : Option Addr) (c0 : Nat) (l0 : List S83) (A1 : Option Addr) (c1 : Nat) (l1 : List Int) (r : List Bool) (w : World) (hr0 : Kd.C k83 w A0 l0.length l0) (hc0 : l0.length ≤ c0) (hr1 : Kd.C (Kd.int .i64) w A1 l1.length l1) (hc1 : l1.length ≤ c1) (h : impl_opened.f k l0 l1 = some r) :
    Calls Tryz.prog 63 #[.slice A0 l0.length c0,.slice A1 l1.length c1] w fun e w' => ∃ v : Value,e = .returned v ∧ Kd.bool.R 4 w' w.heap.size (fun _ => True) v r ∧ Below w.heap.size w w':=by
 unfold impl_opened.f at h
 replace h:=bS_ h
 obtain ⟨is0,HF,h⟩:=h
 replace h:=iN_ h
 obtain ⟨⟨hl0,hok,hl4⟩,h⟩:=h
 have H':=Z_ h
 have HL0:=Z_ hl0
 have HOK:=Z_ hok
 have HL4:=Z_ hl4
 have a2:=Z_ hr0
 have a5:=Z_ hc0
 have a7:=Z_ hr1
 have a8:=Z_ hc1
 have HB:=Z_ (Below.refl w.heap.size w)
 clear h hl0 hok hl4 hr0 hc0 hr1 hc1
 have hu1:=Tryz.underlying57
 have hu2:=Tryz.underlying30
 have hu3:=Tryz.underlying83
 refine (callsIn_wide (n:=6)).1 ?_
 refine callsIn_of_wp_marks Tryz.func63 rfl trivial ?_ rfl
 simp only [Tryz.ntmps63,List.size_toArray,List.length_cons,List.length_nil,Nat.reduceAdd,Nat.reduceSub,Array.replicate_succ,Array.replicate_zero,List.push_toArray,List.append_toArray,List.nil_append,List.cons_append]
 refine wpIn_wide.2 (wp_opPost ?_)
 go_wp2_with (first | (go_at_call 69;refine (impl_flags.calls k A0 c0 l0 A1 c1 l1 is0 _ (Kd.C_below a2.out Lb_) a5.out (Kd.C_below a7.out Lb_) a8.out HF.out).mono ?_;rintro e w12 ⟨v12,rfl,ho,hb⟩;have HO:=Z_ (Kd.R_lower ho (below_size HB.out));replace HB:=Z_ (lP_ HB.out hb);clear ho hb;obtain ⟨A5,c5,e5⟩:=Kd.R_slice HO.out;rw [HL0.out] at e5;subst e5) | ((with_reducible refine gD_ 5 rfl ?_);refine bx_ #[.slice none 0 0] 57 ?_;intro g5 hg w3 hbox hb;have a4:=Z_ (show w.heap.size ≤ g5 by rw [hg];exact below_size HB.out);replace HO:=Z_ (Kd.R_below HO.out hb);replace HB:=Z_ (lP_ HB.out hb);have B5:=Z_ hbox;clear hb hbox hg;obtain ⟨_,_⟩:=bc1H B5.out))
 replace HO:=Z_ (Kd.R_set HO.out B5.out (by decide) 0 (.slice A5 l0.length c5))
 replace HB:=Z_ (lS1_ (j:=0) (v:=.slice A5 l0.length c5) HB.out a4.out)
 replace B5:=Z_ (blk_put B5.out 0 (.slice A5 l0.length c5) rfl)
 generalize w3.setCell ⟨g5,0,none⟩ (.slice A5 l0.length c5) = w4 at HO HB B5 ⊢
 refine wp_loop_ghost_k (fun gg a' wr => ∃ (u4 u6 u7 u8 u9 u13 u14 u15 u16 u17 u18 u19 u22 u23 u24 u25 u26 u27 u28 u29 u30 u31 u32 u33 u34 u35 u36 u37 u38 u39 u40 u41 u42 u43 u44 u45 u46 u47 u48 u49 u50 u51 u52 u53 u54 u55 u56 u57 : Value) (out : List Bool) (Ds : List Nat),a' = { tmps:=#[.slice A0 l0.length c0,.slice A1 l1.length c1,undef,undef,u4,.pointer (some ⟨g5,0,none⟩),u6,u7,u8,u9,.slice A0 l0.length c0,.slice A1 l1.length c1,.slice A5 l0.length c5,u13,u14,u15,u16,u17,u18,u19,undef,undef,u22,u23,u24,u25,u26,u27,u28,u29,u30,u31,u32,u33,u34,u35,u36,u37,u38,u39,u40,u41,u42,u43,u44,u45,u46,u47,u48,u49,u50,u51,u52,u53,u54,u55,u56,u57],defers:=Ds.map mk_ } ∧ Aside0 (opL l0 gg out = some r) ∧ Aside0 (out.length = l0.length) ∧ Aside0 (wr.heap[g5]? = some (.cells #[.slice A5 l0.length c5] 57 (0,0))) ∧ Aside0 (Kd.bool.R 4 wr w.heap.size (fun _ => True) (.slice A5 l0.length c5) out) ∧ Aside0 (Below w.heap.size w wr) ∧ Aside0 (Ds.Nodup) ∧ Aside0 (∀ D ∈ Ds,w.heap.size ≤ D ∧ wr.heap[D]? = some (.deferred (some [])))) k ⟨_,_,_,_,_,_,_,_,_,_,_,_,_,_,_,_,_,_,_,_,_,_,_,_,_,_,_,_,_,_,_,_,_,_,_,_,_,_,_,_,_,_,_,_,_,_,_,_,is0,[],rfl,H',HL0,B5,HO,HB,⟨List.nodup_nil⟩,⟨fun _ h => by cases h⟩⟩ ?_
 intro gk a' wr hinv J K hJ hK
 clear HO HB B5
 obtain ⟨u4,u6,u7,u8,u9,u13,u14,u15,u16,u17,u18,u19,u22,u23,u24,u25,u26,u27,u28,u29,u30,u31,u32,u33,u34,u35,u36,u37,u38,u39,u40,u41,u42,u43,u44,u45,u46,u47,u48,u49,u50,u51,u52,u53,u54,u55,u56,u57,out,Ds,ha,H,HLO,B5,HO,HB,HDN,HDM⟩:=hinv
 subst ha
 try dsimp only
 ·clear H'
  cases gk with
  | zero => exact absurd H.out (by simp [opL])
  | succ k1 =>
   have hcl:=fun W (h1 : Kd.C Kd.bool W A5 out.length out) (h2 : out.length ≤ c5) => slices_Clone_bool_bool.calls A5 c5 out out W h1 h2 (by unfold slices_Clone_bool_bool.f;exact if_pos (by have:=HLO.out;have:=HL4.out;omega))
   rw [HLO.out] at hcl
   have hmk:=fun W (h0 : Kd.C k83 W A0 l0.length l0) (h1 : Kd.C Kd.bool W A5 out.length out) (h2 : out.length ≤ c5) => impl_makeable.calls A0 c0 l0 A5 c5 out (opC l0 out) W h0 a5.out h1 h2 (by unfold impl_makeable.f;exact if_pos ⟨HLO.out,HOK.out,HL4.out⟩)
   rw [HLO.out] at hmk
   have HCL:=Z_ hcl
   have HMK:=Z_ hmk
   clear hcl hmk
   have H':=Z_ (show (if out = opRnd l0 out then some (opRnd l0 out) else opL l0 k1 (opRnd l0 out)) = some r from H.out)
   clear H
   obtain ⟨can,hcan⟩ : ∃ can,can = opC l0 out:=⟨_,rfl⟩
   rw [← hcan] at HMK
   have HCAN:=Z_ hcan
   clear hcan
   have HLC:=Z_ (show can.length = l0.length by rw [HCAN.out];exact opC_length _ _)
   go_wp2
   replace B5:=Z_ (bD_ B5.out)
   replace HO:=Z_ (rD_ HO.out)
   replace HB:=Z_ (below_drew HB.out)
   refine start_ (n:=8) (S:=fun w' => w'.cell? ⟨g5,0,none⟩ = some (.slice A5 l0.length c5) ∧ True) (ds:=[7]) (Bt 8 0) (by kernel_rfl) rfl rfl ⟨(blk_cell B5.out 0).trans rfl,trivial⟩ (fun hHeld => ?_)
   have HDMN : Aside0 (∀ D ∈ Ds,w.heap.size ≤ D):=Z_ (fun D hD => (HDM.out D hD).1)
   replace HDM : Aside0 (∀ D ∈ Ds,wr.drew.heap[D]? = some (.deferred (some []))):=Z_ (fun D hD => bD_ (HDM.out D hD).2)
   generalize wr.drew = wD at B5 HO HB HDM hHeld ⊢
   have HG5:=Z_ (show ∀ k,Value.ownBlock (.slice A5 l0.length c5) = some k → k < wD.heap.size from fun k hk => by obtain ⟨_,hi⟩:=Kd.R_own HO.out;exact own_lt hi k hk)
   refine ta_ 0 (some 13) (Bt 8 1) (by kernel_rfl) hHeld ?_
   refine pu_ 2 (some 15) (Bt 8 5) (by kernel_rfl) ?_
   refine ta_ 3 (some 16) (Bt 8 13) (by kernel_rfl) hHeld ?_
   have HD:=Z_ (Below.refl wD.heap.size wD)
   refine join_ (σ:=Value × Value × Nat) 2 (Bt 8 63) (fun s_ => [(14,s_.1),(17,s_.2.1),(7,.pointer (some ⟨s_.2.2,0,none⟩))]) (fun s_ W => (W.cell? ⟨g5,0,none⟩ = some (.slice A5 l0.length c5) ∧ True) ∧ W.heap[g5]? = some (.cells #[.slice A5 l0.length c5] 57 (0,0)) ∧ Kd.bool.R 4 W w.heap.size (fun _ => True) (.slice A5 l0.length c5) out ∧ W.heap[s_.2.2]? = some (.cells #[.slice none 0 0] 57 (0,0)) ∧ Kd.bool.R 4 W wD.heap.size (fun _ => True) s_.2.1 can ∧ Kd.bool.R 4 W wD.heap.size (fun _ => True) s_.1 out ∧ Below w.heap.size w W ∧ Below wD.heap.size wD W ∧ wD.heap.size ≤ s_.2.2) ?_ ?_
   rotate_left
   ·intro hCont
    refine two_ (i:=1) (j:=5) (Ni:=some 14) (Nj:=some 7) (Bt 8 15) (Bt 8 45) rfl rfl rfl rfl (by kernel_rfl) (by decide) (by decide) (fun K hK => ?_) (fun K hK => ?_)
    ·skip
     refine goes_ Tryz.func86 (by kernel_rfl) rfl #[.slice A5 l0.length c5] (by rfl) rfl rfl (by (try simp only [List.map_toArray,List.map_cons,List.map_nil]);first | done | rfl) ?_
     refine (HCL.out _ (by have h_:=(Kd.R_reads' HO.out).2.2;rw [HLO.out] at h_;exact h_) (Kd.R_reads' HO.out).2.1).mono ?_
     rintro e w1_0 ⟨v14,rfl,ho_,hb_⟩
     refine ⟨_,rfl,?_⟩
     have RB_:=Z_ (Kd.R_lower ho_ (below_size HD.out))
     replace B5:=Z_ (bB_ B5.out hb_)
     replace HO:=Z_ (Kd.R_below HO.out hb_)
     replace HB:=Z_ (lP_ HB.out hb_)
     replace HD:=Z_ (lP_ HD.out hb_)
     have RB:=RB_
     clear RB_ ho_ hb_
     refine hK.out _ _ ⟨(blk_cell B5.out 0).trans rfl,trivial⟩ (fun hHeld => ?_)
     clear hK K
     refine norm_ (a':=?_) ?_ ?_
     rotate_left
     ·show Act.put _ (some 14) _ = _
      simp only [Act.put,lA_,lZ_,lS_,i64_w,i32_w]
      rfl
     refine two_ (i:=4) (j:=5) (Ni:=some 17) (Nj:=some 7) (Bt 8 31) (Bt 8 47) rfl rfl rfl rfl (by kernel_rfl) (by decide) (by decide) (fun K hK => ?_) (fun K hK => ?_)
     ·skip
      refine goes_ Tryz.func62 (by kernel_rfl) rfl #[.slice A0 l0.length c0,.slice A5 l0.length c5] (by rfl) rfl rfl (by (try simp only [List.map_toArray,List.map_cons,List.map_nil]);first | done | rfl) ?_
      refine (HMK.out _ (Kd.C_below a2.out HB.out) (by have h_:=(Kd.R_reads' HO.out).2.2;rw [HLO.out] at h_;exact h_) (Kd.R_reads' HO.out).2.1).mono ?_
      rintro e w4_1 ⟨v17,rfl,ho_,hb_⟩
      refine ⟨_,rfl,?_⟩
      have RC_:=Z_ (Kd.R_lower ho_ (below_size HD.out))
      replace B5:=Z_ (bB_ B5.out hb_)
      replace HO:=Z_ (Kd.R_below HO.out hb_)
      replace HB:=Z_ (lP_ HB.out hb_)
      replace HD:=Z_ (lP_ HD.out hb_)
      replace RB:=Z_ (Kd.R_below RB.out hb_)
      have RC:=RC_
      clear RC_ ho_ hb_
      refine hK.out _ _ ⟨(blk_cell B5.out 0).trans rfl,trivial⟩ (fun hHeld => ?_)
      clear hK K
      refine norm_ (a':=?_) ?_ ?_
      rotate_left
      ·show Act.put _ (some 17) _ = _
       simp only [Act.put,lA_,lZ_,lS_,i64_w,i32_w]
       rfl
      refine one_ (i:=5) (N:=some 7) (Bt 8 63) rfl rfl (by kernel_rfl) (by decide) (fun K hK => ?_)
      refine value_ (w1:=?_) (v:=?_) (by rfl) rfl ?_ ?_
      rotate_left 2
      ·go_simp
       first | rfl | (constructor <;> rfl)
      have B7_:=Z_ (blk_new w4_1 (.cells #[.slice none 0 0] 57))
      obtain ⟨g7,hg7⟩ : ∃ g7,g7 = w4_1.heap.size:=⟨_,rfl⟩
      have a1:=Z_ (show wD.heap.size ≤ g7 by rw [hg7];exact below_size HD.out)
      rw [← hg7] at B7_ ⊢
      replace B5:=Z_ (bB_ B5.out (lA1_ (Below.refl _ _) (.cells #[.slice none 0 0] 57)))
      replace HO:=Z_ (Kd.R_below HO.out (lA1_ (Below.refl _ _) (.cells #[.slice none 0 0] 57)))
      replace HB:=Z_ (lP_ HB.out (lA1_ (Below.refl _ _) (.cells #[.slice none 0 0] 57)))
      replace HD:=Z_ (lP_ HD.out (lA1_ (Below.refl _ _) (.cells #[.slice none 0 0] 57)))
      replace RB:=Z_ (Kd.R_below RB.out (lA1_ (Below.refl _ _) (.cells #[.slice none 0 0] 57)))
      replace RC:=Z_ (Kd.R_below RC.out (lA1_ (Below.refl _ _) (.cells #[.slice none 0 0] 57)))
      have B7:=B7_
      clear B7_ hg7
      generalize (World.alloc w4_1 (.cells #[.slice none 0 0] 57)) = w5_2 at B5 HO HB HD B7 RB RC ⊢
      refine hK.out _ _ ⟨(blk_cell B5.out 0).trans rfl,trivial⟩ (fun hHeld => ?_)
      clear hK K
      refine norm_ (a':=?_) ?_ ?_
      rotate_left
      ·show Act.put _ (some 7) _ = _
       simp only [Act.put,lA_,lZ_,lS_,i64_w,i32_w]
       rfl
      exact norm_ (by simp only [putAll,Act.put,lA_,lZ_,lS_]) (hCont (v14,v17,g7) _ ⟨hHeld,B5.out,HO.out,B7.out,RC.out,RB.out,HB.out,HD.out,a1.out⟩)
     ·skip
      refine value_ (w1:=?_) (v:=?_) (by rfl) rfl ?_ ?_
      rotate_left 2
      ·go_simp
       first | rfl | (constructor <;> rfl)
      have B7_:=Z_ (blk_new w1_0 (.cells #[.slice none 0 0] 57))
      obtain ⟨g7,hg7⟩ : ∃ g7,g7 = w1_0.heap.size:=⟨_,rfl⟩
      have a1:=Z_ (show wD.heap.size ≤ g7 by rw [hg7];exact below_size HD.out)
      rw [← hg7] at B7_ ⊢
      replace B5:=Z_ (bB_ B5.out (lA1_ (Below.refl _ _) (.cells #[.slice none 0 0] 57)))
      replace HO:=Z_ (Kd.R_below HO.out (lA1_ (Below.refl _ _) (.cells #[.slice none 0 0] 57)))
      replace HB:=Z_ (lP_ HB.out (lA1_ (Below.refl _ _) (.cells #[.slice none 0 0] 57)))
      replace HD:=Z_ (lP_ HD.out (lA1_ (Below.refl _ _) (.cells #[.slice none 0 0] 57)))
      replace RB:=Z_ (Kd.R_below RB.out (lA1_ (Below.refl _ _) (.cells #[.slice none 0 0] 57)))
      have B7:=B7_
      clear B7_ hg7
      generalize (World.alloc w1_0 (.cells #[.slice none 0 0] 57)) = w5_1 at B5 HO HB HD B7 RB ⊢
      refine hK.out _ _ ⟨(blk_cell B5.out 0).trans rfl,trivial⟩ (fun hHeld => ?_)
      clear hK K
      refine norm_ (a':=?_) ?_ ?_
      rotate_left
      ·show Act.put _ (some 7) _ = _
       simp only [Act.put,lA_,lZ_,lS_,i64_w,i32_w]
       rfl
      refine one_ (i:=4) (N:=some 17) (Bt 8 63) rfl rfl (by kernel_rfl) (by decide) (fun K hK => ?_)
      refine goes_ Tryz.func62 (by kernel_rfl) rfl #[.slice A0 l0.length c0,.slice A5 l0.length c5] (by rfl) rfl rfl (by (try simp only [List.map_toArray,List.map_cons,List.map_nil]);first | done | rfl) ?_
      refine (HMK.out _ (Kd.C_below a2.out HB.out) (by have h_:=(Kd.R_reads' HO.out).2.2;rw [HLO.out] at h_;exact h_) (Kd.R_reads' HO.out).2.1).mono ?_
      rintro e w4_2 ⟨v17,rfl,ho_,hb_⟩
      refine ⟨_,rfl,?_⟩
      have RC_:=Z_ (Kd.R_lower ho_ (below_size HD.out))
      replace B5:=Z_ (bB_ B5.out hb_)
      replace HO:=Z_ (Kd.R_below HO.out hb_)
      replace HB:=Z_ (lP_ HB.out hb_)
      replace HD:=Z_ (lP_ HD.out hb_)
      replace RB:=Z_ (Kd.R_below RB.out hb_)
      replace B7:=Z_ (bB_ B7.out hb_)
      have RC:=RC_
      clear RC_ ho_ hb_
      refine hK.out _ _ ⟨(blk_cell B5.out 0).trans rfl,trivial⟩ (fun hHeld => ?_)
      clear hK K
      refine norm_ (a':=?_) ?_ ?_
      rotate_left
      ·show Act.put _ (some 17) _ = _
       simp only [Act.put,lA_,lZ_,lS_,i64_w,i32_w]
       rfl
      exact norm_ (by simp only [putAll,Act.put,lA_,lZ_,lS_]) (hCont (v14,v17,g7) _ ⟨hHeld,B5.out,HO.out,B7.out,RC.out,RB.out,HB.out,HD.out,a1.out⟩)
    ·skip
     refine value_ (w1:=?_) (v:=?_) (by rfl) rfl ?_ ?_
     rotate_left 2
     ·go_simp
      first | rfl | (constructor <;> rfl)
     have B7_:=Z_ (blk_new wD (.cells #[.slice none 0 0] 57))
     obtain ⟨g7,hg7⟩ : ∃ g7,g7 = wD.heap.size:=⟨_,rfl⟩
     have a1:=Z_ (show wD.heap.size ≤ g7 by rw [hg7];exact below_size HD.out)
     rw [← hg7] at B7_ ⊢
     replace B5:=Z_ (bB_ B5.out (lA1_ (Below.refl _ _) (.cells #[.slice none 0 0] 57)))
     replace HO:=Z_ (Kd.R_below HO.out (lA1_ (Below.refl _ _) (.cells #[.slice none 0 0] 57)))
     replace HB:=Z_ (lP_ HB.out (lA1_ (Below.refl _ _) (.cells #[.slice none 0 0] 57)))
     replace HD:=Z_ (lP_ HD.out (lA1_ (Below.refl _ _) (.cells #[.slice none 0 0] 57)))
     have B7:=B7_
     clear B7_ hg7
     generalize (World.alloc wD (.cells #[.slice none 0 0] 57)) = w5_0 at B5 HO HB HD B7  ⊢
     refine hK.out _ _ ⟨(blk_cell B5.out 0).trans rfl,trivial⟩ (fun hHeld => ?_)
     clear hK K
     refine norm_ (a':=?_) ?_ ?_
     rotate_left
     ·show Act.put _ (some 7) _ = _
      simp only [Act.put,lA_,lZ_,lS_,i64_w,i32_w]
      rfl
     refine one_ (i:=1) (N:=some 14) (Bt 8 47) rfl rfl (by kernel_rfl) (by decide) (fun K hK => ?_)
     refine goes_ Tryz.func86 (by kernel_rfl) rfl #[.slice A5 l0.length c5] (by rfl) rfl rfl (by (try simp only [List.map_toArray,List.map_cons,List.map_nil]);first | done | rfl) ?_
     refine (HCL.out _ (by have h_:=(Kd.R_reads' HO.out).2.2;rw [HLO.out] at h_;exact h_) (Kd.R_reads' HO.out).2.1).mono ?_
     rintro e w1_1 ⟨v14,rfl,ho_,hb_⟩
     refine ⟨_,rfl,?_⟩
     have RB_:=Z_ (Kd.R_lower ho_ (below_size HD.out))
     replace B5:=Z_ (bB_ B5.out hb_)
     replace HO:=Z_ (Kd.R_below HO.out hb_)
     replace HB:=Z_ (lP_ HB.out hb_)
     replace HD:=Z_ (lP_ HD.out hb_)
     replace B7:=Z_ (bB_ B7.out hb_)
     have RB:=RB_
     clear RB_ ho_ hb_
     refine hK.out _ _ ⟨(blk_cell B5.out 0).trans rfl,trivial⟩ (fun hHeld => ?_)
     clear hK K
     refine norm_ (a':=?_) ?_ ?_
     rotate_left
     ·show Act.put _ (some 14) _ = _
      simp only [Act.put,lA_,lZ_,lS_,i64_w,i32_w]
      rfl
     refine one_ (i:=4) (N:=some 17) (Bt 8 63) rfl rfl (by kernel_rfl) (by decide) (fun K hK => ?_)
     refine goes_ Tryz.func62 (by kernel_rfl) rfl #[.slice A0 l0.length c0,.slice A5 l0.length c5] (by rfl) rfl rfl (by (try simp only [List.map_toArray,List.map_cons,List.map_nil]);first | done | rfl) ?_
     refine (HMK.out _ (Kd.C_below a2.out HB.out) (by have h_:=(Kd.R_reads' HO.out).2.2;rw [HLO.out] at h_;exact h_) (Kd.R_reads' HO.out).2.1).mono ?_
     rintro e w4_2 ⟨v17,rfl,ho_,hb_⟩
     refine ⟨_,rfl,?_⟩
     have RC_:=Z_ (Kd.R_lower ho_ (below_size HD.out))
     replace B5:=Z_ (bB_ B5.out hb_)
     replace HO:=Z_ (Kd.R_below HO.out hb_)
     replace HB:=Z_ (lP_ HB.out hb_)
     replace HD:=Z_ (lP_ HD.out hb_)
     replace RB:=Z_ (Kd.R_below RB.out hb_)
     replace B7:=Z_ (bB_ B7.out hb_)
     have RC:=RC_
     clear RC_ ho_ hb_
     refine hK.out _ _ ⟨(blk_cell B5.out 0).trans rfl,trivial⟩ (fun hHeld => ?_)
     clear hK K
     refine norm_ (a':=?_) ?_ ?_
     rotate_left
     ·show Act.put _ (some 17) _ = _
      simp only [Act.put,lA_,lZ_,lS_,i64_w,i32_w]
      rfl
     exact norm_ (by simp only [putAll,Act.put,lA_,lZ_,lS_]) (hCont (v14,v17,g7) _ ⟨hHeld,B5.out,HO.out,B7.out,RC.out,RB.out,HB.out,HD.out,a1.out⟩)
   rintro ⟨v14,v17,g7⟩ W7 ⟨hHeld,b5,ho,b7,rc,rb,hb,hd,ge7⟩
   dsimp only at b7 rc rb ge7 ⊢
   have G5D:=Z_ (blk_lt B5.out)
   clear B5 HO HB HD hHeld
   obtain ⟨a0,c17,e17⟩:=Kd.R_slice rc
   rw [HLC.out] at e17
   subst e17
   obtain ⟨a3,c14,e14⟩:=Kd.R_slice rb
   rw [HLO.out] at e14
   subst e14
   have a1:=Z_ ge7
   have GEW:=Z_ (show w.heap.size ≤ g7 from by have:=G5D.out;have:=a4.out;omega)
   have B5:=Z_ b5
   have B7:=Z_ b7
   have HO:=Z_ ho
   have RC:=Z_ rc
   have RB:=Z_ rb
   have HB:=Z_ hb
   have HD:=Z_ hd
   have HDM7 : Aside0 (∀ D ∈ Ds,W7.heap[D]? = some (.deferred (some []))):=Z_ (fun D hD => bB_ (HDM.out D hD) hd)
   have HDL:=Z_ (fun D hD => blk_lt (HDM.out D hD))
   clear HDM
   clear b5 b7 ho rc rb hb hd ge7
   refine norm_ (a':=?_) ?_ ?_
   rotate_left
   ·simp only [putAll,Act.put,lA_,lZ_,lS_]
    rfl
   refine pu_ 6 (some 6) (Bt 8 127) (by kernel_rfl) ?_
   refine last_ (i:=7) (N:=none) (Bt 8 255) rfl rfl (by kernel_rfl) (by decide) (fun K hK => ?_)
   obtain ⟨_,_⟩:=bc1H B7.out
   refine skip_ (w1:=?_) (by rfl) rfl ?_ ?_
   rotate_left
   ·go_simp
    rfl
   refine hK.out _ _ ?_
   clear hK K
   refine done_ (by kernel_rfl) ?_
   have HDM8 : Aside0 (∀ D ∈ Ds,(W7.setCell ⟨g7,0,none⟩ (.slice a0 l0.length c17)).heap[D]? = some (.deferred (some []))):=Z_ (fun D hD => (Below.heap_setCell W7 ⟨g7,0,none⟩ _ D (by have:=HDL.out D hD;have:=a1.out;show D ≠ g7;omega)).trans (HDM7.out D hD))
   clear HDM7 HDL
   replace HO:=Z_ (Kd.R_set HO.out B7.out (by decide) 0 (.slice a0 l0.length c17))
   replace RC:=Z_ (Kd.R_set RC.out B7.out (by decide) 0 (.slice a0 l0.length c17))
   replace RB:=Z_ (Kd.R_set RB.out B7.out (by decide) 0 (.slice a0 l0.length c17))
   replace B5:=Z_ (bF_ B5.out (p:=⟨g7,0,none⟩) (by have:=G5D.out;have:=a1.out;show g5 ≠ g7;omega) (.slice a0 l0.length c17))
   replace HB:=Z_ (lS1_ (j:=0) (v:=.slice a0 l0.length c17) HB.out GEW.out)
   replace B7:=Z_ (blk_put B7.out 0 (.slice a0 l0.length c17) rfl)
   have HI : Aside0 (OpI w.heap.size g5 g7 wD.heap.size (.slice A5 l0.length c5) (.slice a0 l0.length c17) (.slice a3 l0.length c14) can out w out (W7.setCell ⟨g7,0,none⟩ (.slice a0 l0.length c17))):=Z_ ⟨B5.out,HO.out,B7.out,RC.out,RB.out,HB.out⟩
   have a9:=Z_ (Kd.R_reads' HO.out).2.1
   have a6:=Z_ (Kd.R_reads' RB.out).2.1
   clear HO RC RB B5 HB HD
   generalize W7.setCell ⟨g7,0,none⟩ (.slice a0 l0.length c17) = W8 at HI B7 HDM8 ⊢
   go_wp2_with (first | (go_at_call 87;refine (backwardT_in A0 l0.length c0 _).mono ?_;rintro e w' ⟨rfl,rfl⟩))
   have HBW:=Z_ HI.out.2.2.2.2.2
   obtain ⟨ad,hA,hadw,hcz⟩ : ∃ ad : Addr,(0 < l0.length → A0 = some ad ∧ ad.block < w.heap.size) ∧ ad.block < W8.heap.size ∧ ∀ j,j < l0.length → (W8.cell? (ad.add (j * 4)) = some (.int .i64 (rd_T83 l0 ((j : Nat) : Int)).f0) ∧ W8.cell? ⟨(ad.add (j * 4)).block,(ad.add (j * 4)).off + 1,none⟩ = some (.int .i64 (rd_T83 l0 ((j : Nat) : Int)).f1) ∧ W8.cell? ⟨(ad.add (j * 4)).block,(ad.add (j * 4)).off + 2,none⟩ = some (.int .i64 (rd_T83 l0 ((j : Nat) : Int)).f2) ∧ W8.cell? ⟨(ad.add (j * 4)).block,(ad.add (j * 4)).off + 3,none⟩ = some (.int .i64 (rd_T83 l0 ((j : Nat) : Int)).f3)):=by
     by_cases h0 : l0.length = 0
     · exact ⟨⟨g5,0,none⟩,fun h => by omega,blk_lt HI.out.1,fun j hj => by omega⟩
     · obtain ⟨ad,e,hx,_⟩:=at_T83 a2.out ((0 : Nat) : Int) (by omega) (by omega)
       have hl:=World.block_lt_of_cell? w _ hx
       rw [add_blockT_] at hl
       refine ⟨ad,fun _ => ⟨e,hl⟩,Nat.lt_of_lt_of_le hl (below_size HBW.out),fun j hj => ?_⟩
       obtain ⟨ad2,e2,h0,h1,h2,h3⟩:=at_T83 a2.out (j : Int) (by omega) (by omega)
       obtain rfl : ad = ad2:=by rw [e] at e2;injection e2
       rw [Int.toNat_natCast] at h0 h1 h2 h3
       exact ⟨cB_ HBW h0,cB_ HBW h1,cB_ HBW h2,cB_ HBW h3⟩
   have KB:=Z_ (blk_new W8 (.cells #[.slice A0 l0.length c0] 30))
   have hb9 : Below W8.heap.size W8 (W8.alloc (.cells #[.slice A0 l0.length c0] 30)):=lA1_ (Below.refl _ _) _
   have hz9 : (W8.alloc (.cells #[.slice A0 l0.length c0] 30)).heap.size = W8.heap.size + 1:=by simp
   replace HI:=Z_ (opI_below HI.out a4.out hb9)
   have hcz' : ∀ j,j < l0.length → ((W8.alloc (.cells #[.slice A0 l0.length c0] 30)).cell? (ad.add (j * 4)) = some (.int .i64 (rd_T83 l0 ((j : Nat) : Int)).f0) ∧ (W8.alloc (.cells #[.slice A0 l0.length c0] 30)).cell? ⟨(ad.add (j * 4)).block,(ad.add (j * 4)).off + 1,none⟩ = some (.int .i64 (rd_T83 l0 ((j : Nat) : Int)).f1) ∧ (W8.alloc (.cells #[.slice A0 l0.length c0] 30)).cell? ⟨(ad.add (j * 4)).block,(ad.add (j * 4)).off + 2,none⟩ = some (.int .i64 (rd_T83 l0 ((j : Nat) : Int)).f2) ∧ (W8.alloc (.cells #[.slice A0 l0.length c0] 30)).cell? ⟨(ad.add (j * 4)).block,(ad.add (j * 4)).off + 3,none⟩ = some (.int .i64 (rd_T83 l0 ((j : Nat) : Int)).f3)):=fun j hj => by
     obtain ⟨h0,h1,h2,h3⟩:=hcz j hj
     exact ⟨cB_ (Z_ hb9) h0,cB_ (Z_ hb9) h1,cB_ (Z_ hb9) h2,cB_ (Z_ hb9) h3⟩
   have HDM9 : Aside0 (∀ D ∈ Ds,(W8.alloc (.cells #[.slice A0 l0.length c0] 30)).heap[D]? = some (.deferred (some []))):=Z_ (fun D hD => bA_ (HDM8.out D hD) _)
   clear HBW hcz hb9 HDM8
   have hgb:=blk_lt HI.out.1
   have HD8:=Z_ (show wD.heap.size ≤ W8.heap.size from by have:=blk_lt B7.out;have:=a1.out;omega)
   generalize W8.alloc (.cells #[.slice A0 l0.length c0] 30) = W9 at HI KB hz9 hcz' hgb HDM9 ⊢
   clear B7
   generalize W8.heap.size = b8 at KB hz9 hadw HD8 ⊢
   have hz9a : b8 < W9.heap.size:=by omega
   have hz9b : W9.heap.size ≤ b8 + 1:=by omega
   clear hz9
   have kB : W9.cell? ⟨b8,0,none⟩ = some (.slice A0 l0.length c0):=(blk_cell KB.out 0).trans rfl
   have HDL:=Z_ (fun D hD => blk_lt (HDM9.out D hD))
   have hl4:=HL4.out
   have hN5:=a4.out
   refine (wpIn_wide (n:=6)).1 ?_
   refine wpIn_rangeFunc_ownH (F:=Fence.wide) (n:=6) rfl (by omega) (gf:=104) (lb:=#[.pointer (some ⟨b8,0,none⟩)]) rfl trivial (enters_of Tryz.func104 (by kernel_rfl) rfl)
     (backwardT_stops 5 (by omega) b8 c0 A0 ad l0 (by omega) W9 (fun h => (hA h).1) kB (by omega) hcz')
     (fun h1 h2 => ⟨h2.1.trans h1.1,h2.2.trans h1.2⟩) (fun W l' o o' hl' _ _ _ => ⟨World.putObj_heap_other (by omega),World.putObj_heap_other (by omega)⟩) (Below.refl _ _) (fun _ => rfl)
     (fun (pre : List Nat) W => OpI w.heap.size g5 g7 wD.heap.size (.slice A5 l0.length c5) (.slice a0 l0.length c17) (.slice a3 l0.length c14) can out w (pre.foldl (opS l0 can) out) W ∧ b8 < W.heap.size ∧ ∀ D ∈ Ds,W.heap[D]? = some (.deferred (some []))) (fun _ _ _ => False) (fun s W W' row h hg hr => ⟨opI_own hN5 (by omega) (fun (pre : List Nat) => pre.foldl (opS l0 can) out) s W W' row h.1 hg hr,Nat.lt_of_lt_of_le h.2.1 hg.size,fun D hD => (hg.block D (blk_lt (h.2.2 D hD)) (fun e => by have:=(hr D e.symm).1;have:=HDL.out D hD;omega)).trans (h.2.2 D hD)⟩) (fun _ _ _ _ _ hs _ _ => hs) ⟨HI.out,hz9a,HDM9.out⟩
     (fun x a' W => ∃ g9,a' = { tmps:=#[.slice A0 l0.length c0,.slice A1 l1.length c1,undef,undef,u4,.pointer (some ⟨g5,0,none⟩),.slice a3 l0.length c14,.pointer (some ⟨g7,0,none⟩),.int .i64 ((l0.length - 1 - x : Nat) : Int),.pointer (some ⟨g9,0,none⟩),.slice A0 l0.length c0,.slice A1 l1.length c1,.slice A5 l0.length c5,.slice A5 l0.length c5,.slice a3 l0.length c14,.slice A0 l0.length c0,.slice A5 l0.length c5,.slice a0 l0.length c17,.slice A0 l0.length c0,.func (.func 104) #[] #[.pointer (some ⟨b8,0,none⟩)],.int .i64 ((l0.length - 1 - x : Nat) : Int),.agg #[.int .i64 (rd_T83 l0 ((l0.length - 1 - x : Nat) : Int)).f0,.int .i64 (rd_T83 l0 ((l0.length - 1 - x : Nat) : Int)).f1,.int .i64 (rd_T83 l0 ((l0.length - 1 - x : Nat) : Int)).f2,.int .i64 (rd_T83 l0 ((l0.length - 1 - x : Nat) : Int)).f3],u22,u23,u24,u25,u26,u27,u28,u29,u30,u31,u32,u33,u34,u35,u36,u37,u38,u39,u40,u41,u42,u43,u44,u45,u46,u47,u48,u49,u50,u51,u52,u53,u54,u55,u56,u57],defers:=[] } ∧ W.heap[g9]? = some (.cells #[.int .i64 (rd_T83 l0 ((l0.length - 1 - x : Nat) : Int)).f0,.int .i64 (rd_T83 l0 ((l0.length - 1 - x : Nat) : Int)).f1,.int .i64 (rd_T83 l0 ((l0.length - 1 - x : Nat) : Int)).f2,.int .i64 (rd_T83 l0 ((l0.length - 1 - x : Nat) : Int)).f3] 83 (0,0))) (fun x a' => by rintro ⟨⟩ W W' row ⟨g9,e,hb⟩ hg hr;exact ⟨g9,e,blk_ownF hb hg (fun r e => (hr r e).2)⟩) ?assign ?body ?done ?stop
   case assign =>
    intro l' pre x W K hI hK
    gi_wp2
    refine hK _ _ ((KeepsOthers.alloc W _).from _) ⟨Below.heap_alloc _ _ _ hI.2.1,Below.heap_alloc _ _ _ (by have:=hI.2.1;omega)⟩ ⟨opI_below hI.1 hN5 (lA1_ (Below.refl _ _) _),by have:=hI.2.1;simp;omega,fun D hD => bA_ (hI.2.2 D hD) _⟩ ⟨W.heap.size,rfl,blk_new W _⟩
   case body =>
    rintro l' pre x a' W hl' - ⟨HI,hb8,hdm⟩ ⟨g9,rfl,B9⟩ hlt
    have hst : (pre ++ [x]).foldl (opS l0 can) out = opT can (pre.foldl (opS l0 can) out) (l0.length - 1 - x) (rd_T83 l0 ((l0.length - 1 - x : Nat) : Int)):=by rw [List.foldl_append];rfl
    have hlo : (pre.foldl (opS l0 can) out).length = l0.length:=by rw [opF_length];exact HLO.out
    generalize pre.foldl (opS l0 can) out = out1 at HI hlo hst
    obtain ⟨i,hi⟩ : ∃ i,i = l0.length - 1 - x:=⟨_,rfl⟩
    rw [← hi] at B9 hst ⊢
    have hin:=mkOk_at HOK.out (show i < l0.length by omega)
    generalize rd_T83 l0 (i : Int) = y at B9 hin hst ⊢
    have hil : i < l0.length:=by omega
    have hiz : (i : Int) < (l0.length : Int):=by omega
    clear hi
    obtain ⟨g,cg,eg,GG,GL,GC⟩:=Kd.R_form HI.2.1 (by omega)
    rw [hlo] at eg
    have hgN : g < wD.heap.size:=HG5.out g (by rw [eg];rfl)
    injection eg with eg _ ec
    subst eg
    subst ec
    obtain ⟨gc,cc,ec,_,_,_⟩:=Kd.R_form HI.2.2.2.1 (by rw [HLC.out];omega)
    rw [HLC.out] at ec
    injection ec with ec _ ec2
    subst ec
    subst ec2
    have hgad : g ≠ ad.block:=by have:=(hA (by omega)).2;omega
    have n9 : g9 ≠ g:=fun e => Kd.R_ne HI.2.1 B9 (by decide) (by rw [e];rfl)
    have n5 : g5 ≠ g:=fun e => Kd.R_ne HI.2.1 HI.1 (by decide) (by rw [e];rfl)
    have n9':=n9.symm
    have n5':=n5.symm
    have hgD : ∀ D ∈ Ds,D ≠ g:=fun D hD e => by
      obtain ⟨cs,hcs⟩:=GC
      rw [← e,hdm D hD] at hcs
      cases hcs
    have HDB:=Z_ hdm
    have HGD:=Z_ hgD
    clear hdm hgD
    have hgb8 : g ≠ b8:=by have:=HD8.out;omega
    obtain ⟨_,_,_,_,_,_,_,_⟩:=bc4H B9
    obtain ⟨_,_⟩:=bc1H HI.1
    obtain ⟨_,_⟩:=bc1H HI.2.2.1
    obtain ⟨hk,hkf⟩:=rb_get HI.2.1 i hil
    rw [show out1.getD i false = ob out1 (i : Int) from rfl] at hk
    unfold opT at hst
    rw [show out1.getD i false = ob out1 (i : Int) from rfl] at hst
    have hKeep : ∀ j,KeepsFrom W9.heap.size W (W.setCell ⟨g,j,none⟩ (.bool true)) ∧ ((W.setCell ⟨g,j,none⟩ (.bool true)).heap[b8]? = W.heap[b8]? ∧ (W.setCell ⟨g,j,none⟩ (.bool true)).heap[ad.block]? = W.heap[ad.block]?):=fun j => ⟨(KeepsOthers.setCell _ _ _).from _,Below.heap_setCell _ _ _ _ hgb8.symm,Below.heap_setCell _ _ _ _ hgad.symm⟩
    have HH:=Z_ HI
    have HK:=Z_ hKeep
    have HIN:=Z_ hin
    clear HI hKeep hin
    cases hob : ob out1 (i : Int)
    all_goals rw [hob] at hk hst
    ·rw [if_neg (by decide)] at hst
     have HST:=Z_ hst
     clear hob hst
     gi_wp2
     exact ⟨KeepsFrom.refl _ _,⟨rfl,rfl⟩,(by show OpI _ _ _ _ _ _ _ _ _ _ _ _;rw [HST.out];exact HH.out),hb8,HDB.out⟩
    ·rw [if_pos rfl] at hst
     clear hob
     by_cases q3 : y.f0 = 3
     ·obtain ⟨_,_,_⟩:=eqTH q3
      rw [if_pos q3] at hst
      have HST:=Z_ hst
      clear hst
      gi_wp2
      have hp1 : 0 ≤ y.f1 ∧ y.f1 < (l0.length : Int):=by have:=HIN.out;simp [mkIn] at this;omega
      have hp2 : 0 ≤ y.f2 ∧ y.f2 < (l0.length : Int):=by have:=HIN.out;simp [mkIn] at this;omega
      obtain ⟨ha1,hb1⟩:=hp1
      obtain ⟨ha2,hb2⟩:=hp2
      replace HH:=Z_ (opI_below HH.out hN5 (below_drew (Below.refl _ _)))
      replace B9:=bD_ B9
      have HW : Aside0 (KeepsFrom W9.heap.size W W.drew ∧ (W.drew.heap[b8]? = W.heap[b8]? ∧ W.drew.heap[ad.block]? = W.heap[ad.block]?)):=Z_ ⟨(KeepsOthers.drew W).from _,rfl,rfl⟩
      have hb8' : b8 < W.drew.heap.size:=hb8
      have HDE : Aside0 (∀ D ∈ Ds,W.drew.heap[D]? = some (.deferred (some []))):=Z_ (fun D hD => bD_ (HDB.out D hD))
      refine startR_ (n:=10) (S:=fun w' => w'.cell? ⟨g5,0,none⟩ = some (.slice (some ⟨g,0,none⟩) l0.length c5) ∧ w'.cell? ⟨g9,1,none⟩ = some (.int .i64 y.f1) ∧ w'.cell? ⟨g9,2,none⟩ = some (.int .i64 y.f2)) (ds:=[9]) (Bt 10 0) (by kernel_rfl) rfl rfl ⟨(blk_cell HH.out.1 0).trans rfl,(blk_cell B9 1).trans rfl,(blk_cell B9 2).trans rfl⟩ (by kernel_rfl) (fun h => by obtain ⟨_,_,h⟩:=h;exact h) (fun hHeld => ?_)
      generalize W.drew = wE at HH B9 HW hb8' HDE hHeld ⊢
      refine ta_ 0 (some 31) (Bt 10 1) (by kernel_rfl) hHeld ?_
      refine pu_ 1 (some 32) (Bt 10 3) (by kernel_rfl) ?_
      refine ta_ 2 (some 33) (Bt 10 7) (by kernel_rfl) hHeld ?_
      refine ta_ 3 (some 34) (Bt 10 15) (by kernel_rfl) hHeld ?_
      refine pu_ 4 (some 35) (Bt 10 31) (by kernel_rfl) ?_
      refine ta_ 5 (some 36) (Bt 10 63) (by kernel_rfl) hHeld ?_
      refine pu_ 6 (some 37) (Bt 10 127) (by kernel_rfl) ?_
      obtain ⟨hx1,hf1⟩:=Kd.R_celln false HH.out.2.1 y.f1 ha1 hb1
      refine one_ (i:=7) (N:=none) (Bt 10 255) rfl rfl (by kernel_rfl) (by decide) (fun K hK => ?_)
      refine skip_ (w1:=?_) (by rfl) rfl ?_ ?_
      rotate_left
      ·go_simp
       rfl
      have HH2:=Z_ (opI_put HH.out hgN (by rw [hlo];omega) y.f1.toNat)
      have B92:=bF_ B9 (p:=⟨g,y.f1.toNat,none⟩) n9 (.bool true)
      replace HW : Aside0 (KeepsFrom W9.heap.size W (wE.setCell ⟨g,y.f1.toNat,none⟩ (.bool true)) ∧ ((wE.setCell ⟨g,y.f1.toNat,none⟩ (.bool true)).heap[b8]? = W.heap[b8]? ∧ (wE.setCell ⟨g,y.f1.toNat,none⟩ (.bool true)).heap[ad.block]? = W.heap[ad.block]?)):=Z_ ⟨HW.out.1.trans ((KeepsOthers.setCell _ _ _).from _),(Below.heap_setCell _ _ _ _ hgb8.symm).trans HW.out.2.1,(Below.heap_setCell _ _ _ _ hgad.symm).trans HW.out.2.2⟩
      have HDF : Aside0 (∀ D ∈ Ds,(wE.setCell ⟨g,y.f1.toNat,none⟩ (.bool true)).heap[D]? = some (.deferred (some []))):=Z_ (fun D hD => (Below.heap_setCell _ _ _ _ (HGD.out D hD)).trans (HDE.out D hD))
      have hb9 : b8 < (wE.setCell ⟨g,y.f1.toNat,none⟩ (.bool true)).heap.size:=by simpa using hb8'
      refine hK.out _ _ ⟨(blk_cell HH2.out.1 0).trans rfl,(blk_cell B92 1).trans rfl,(blk_cell B92 2).trans rfl⟩ (fun hHeld => ?_)
      clear hK K
      generalize wE.setCell ⟨g,y.f1.toNat,none⟩ (.bool true) = wF at HH2 B92 HW hb9 HDF hHeld ⊢
      obtain ⟨hx2,hf2⟩:=Kd.R_celln false HH2.out.2.1 y.f2 ha2 hb2
      refine pu_ 8 (some 38) (Bt 10 511) (by kernel_rfl) ?_
      refine last_ (i:=9) (N:=none) (Bt 10 1023) rfl rfl (by kernel_rfl) (by decide) (fun K hK => ?_)
      refine skip_ (w1:=?_) (by rfl) rfl ?_ ?_
      rotate_left
      ·go_simp
       rfl
      refine hK.out _ _ ?_
      clear hK K
      refine done_ (by kernel_rfl) ?_
      try gi_wp2
      exact ⟨HW.out.1.trans ((KeepsOthers.setCell _ _ _).from _),⟨(Below.heap_setCell _ _ _ _ hgb8.symm).trans HW.out.2.1,(Below.heap_setCell _ _ _ _ hgad.symm).trans HW.out.2.2⟩,(by show OpI _ _ _ _ _ _ _ _ _ _ _ _;rw [HST.out];exact opI_put HH2.out hgN (by rw [List.length_set,hlo];omega) _),by simpa using hb9,fun D hD => (Below.heap_setCell _ _ _ _ (HGD.out D hD)).trans (HDF.out D hD)⟩
     ·have HQ3:=Z_ q3
      rw [if_neg q3] at hst
      obtain ⟨_,_,_⟩:=eqFH q3
      clear q3
      by_cases q5 : y.f0 = 5
      ·obtain ⟨_,_,_⟩:=eqTH q5
       have hp1 : 0 ≤ y.f1 ∧ y.f1 < (l0.length : Int):=by have:=HIN.out;simp [mkIn] at this;omega
       have hp2 : 0 ≤ y.f2 ∧ y.f2 < (l0.length : Int):=by have:=HIN.out;simp [mkIn] at this;omega
       obtain ⟨ha1,hb1⟩:=hp1
       obtain ⟨ha2,hb2⟩:=hp2
       have hcn : W.cell? ⟨gc,y.f1.toNat,none⟩ = some (.bool (ob can y.f1)):=(Kd.R_celln false HH.out.2.2.2.1 y.f1 ha1 hb1).1
       obtain ⟨hx2,hf2⟩:=Kd.R_celln false HH.out.2.1 y.f2 ha2 hb2
       cases hoc : ob can y.f1
       all_goals rw [hoc] at hcn hst
       ·rw [if_neg (fun h => by simp at h)] at hst
        have HST:=Z_ hst
        clear hst hoc q5
        gi_wp2
        exact ⟨KeepsFrom.refl _ _,⟨rfl,rfl⟩,(by show OpI _ _ _ _ _ _ _ _ _ _ _ _;rw [HST.out];exact HH.out),hb8,HDB.out⟩
       ·rw [if_pos ⟨q5,rfl⟩] at hst
        have HST:=Z_ hst
        clear hst hoc q5
        gi_wp2
        exact ⟨(HK.out y.f2.toNat).1,(HK.out y.f2.toNat).2,(by show OpI _ _ _ _ _ _ _ _ _ _ _ _;rw [HST.out];exact opI_put HH.out hgN (by rw [hlo];omega) _),by simpa using hb8,fun D hD => (Below.heap_setCell _ _ _ _ (HGD.out D hD)).trans (HDB.out D hD)⟩
      ·obtain ⟨_,_,_⟩:=eqFH q5
       rw [if_neg (fun h => q5 h.1)] at hst
       have HST:=Z_ hst
       clear hst q5
       gi_wp2
       exact ⟨KeepsFrom.refl _ _,⟨rfl,rfl⟩,(by show OpI _ _ _ _ _ _ _ _ _ _ _ _;rw [HST.out];exact HH.out),hb8,HDB.out⟩
   case done =>
    rintro D ys W hD rfl ⟨HI2,hb8,hdm⟩ hK
    have hND : w.heap.size ≤ D:=by have:=blk_lt HI.out.1;omega
    have hDn : D ∉ Ds:=fun h => by have:=HDL.out D h;omega
    have HDN2:=Z_ (List.nodup_cons.2 ⟨hDn,HDN.out⟩)
    have hr2 : (List.range l0.length).foldl (opS l0 can) out = opRnd l0 out:=by rw [HCAN.out];rfl
    try dsimp only at HI2
    rw [hr2] at HI2
    clear hr2
    have hlo : (opRnd l0 out).length = out.length:=opF_length _ _ _ _
    obtain ⟨out2,h2⟩ : ∃ out2,out2 = opRnd l0 out:=⟨_,rfl⟩
    rw [← h2] at HI2 hlo
    have H:=H'.out
    clear H'
    rw [← h2] at H
    clear h2
    have heq:=fun W h0 h1 => slices_Equal_bool_bool.calls (out.length + 1) a3 c14 out A5 c5 out2 (decide (out = out2)) W h0 (by rw [HLO.out];exact a6.out) h1 (by rw [hlo,HLO.out];exact a9.out) (eqB_f out out2 hlo.symm (by have:=HLO.out;have:=HL4.out;omega))
    rw [hlo,HLO.out] at heq
    replace H:=iC_ H
    obtain ⟨hq,H⟩ | ⟨hq,H⟩:=H
    rotate_left
    ·rw [decide_eq_false hq] at heq
     have H':=Z_ H
     clear H hq
     obtain ⟨_,_⟩:=bc1H HI2.1
     go_wp2_with (go_at_call 88;refine (heq _ (by have h_:=(Kd.R_reads' HI2.2.2.2.2.1).2.2;rw [HLO.out] at h_;exact h_) (by have h_:=(Kd.R_reads' HI2.2.1).2.2;rw [hlo,HLO.out] at h_;exact h_)).mono ?_;rintro e w' ⟨rfl,⟨nd,rfl⟩⟩)
     refine Handed.intro k1 (Nat.lt_succ_self _) (hJ _ _ _ ⟨_,_,_,_,_,_,_,_,_,_,_,_,_,_,_,_,_,_,_,_,_,_,_,_,_,_,_,_,_,_,_,_,_,_,_,_,_,_,_,_,_,_,_,_,_,_,_,_,out2,D :: Ds,rfl,H',⟨by rw [hlo];exact HLO.out⟩,⟨bN_ HI2.1 nd⟩,⟨rN_ HI2.2.1 nd⟩,⟨lN_ HI2.2.2.2.2.2 nd⟩,HDN2,⟨fun D' h' => ?_⟩⟩)
     rcases List.mem_cons.1 h' with rfl | h'
     ·exact ⟨hND,bN_ hK nd⟩
     ·exact ⟨HDMN.out D' h',bN_ (hdm D' h') nd⟩
    rotate_right
    obtain rfl:=Option.some.inj H
    rw [decide_eq_true hq] at heq
    clear H hq
    obtain ⟨_,_⟩:=bc1H HI2.1
    go_wp2_with (go_at_call 88;refine (heq _ (by have h_:=(Kd.R_reads' HI2.2.2.2.2.1).2.2;rw [HLO.out] at h_;exact h_) (by have h_:=(Kd.R_reads' HI2.2.1).2.2;rw [hlo,HLO.out] at h_;exact h_)).mono ?_;rintro e w' ⟨rfl,⟨nd,rfl⟩⟩)
    show LeavesInM Fence.wide 6 _ _ _ _ ((D :: Ds).map mk_) .returning _
    refine leaves_marks (fun W => Kd.bool.R 4 W w.heap.size (fun _ => True) (.slice A5 l0.length c5) out2 ∧ Below w.heap.size w W) w.heap.size (fun W D h hN hd => ⟨R_ownF h.1 (grownBy_putObj' W D _) (fun r e => by cases e;exact ⟨_,hd,rfl⟩),pw_below_grown h.2 (some D) (by have:=blk_lt hd;omega) (grownBy_putObj' W D _) (fun k e => by cases e;exact hN)⟩) (fun W h => ⟨_,results_tmp rfl _ _ _,_,rfl,h⟩) (D :: Ds) _ HDN2.out (fun D' h' => ?_) ⟨rN_ HI2.2.1 nd,lN_ HI2.2.2.2.2.2 nd⟩
    rcases List.mem_cons.1 h' with rfl | h'
    ·exact ⟨hND,bN_ hK nd⟩
    ·exact ⟨HDMN.out D' h',bN_ (hdm D' h') nd⟩
   case stop =>
    rintro D c pre W _ _ h _
    exact h.elim
end
end Go.Proofs.YtcafikgabidphaaGreat.G
namespace Go.Proofs.YtcafikgabidphaaGreat.G
open Go.RowKit Go.Proofs.YtcafikgabidphaaGreatW.PrintWords Go.Proofs.YtcafikgabidphaaGreatW.PrintLast Go.Proofs.YtcafikgabidphaaGreatW.PrintMore
attribute [local go_sem] max2_int min2_int max_two min_two max_three min_three max_four min_four   -- for this text's walks alone
set_option linter.unusedVariables false
set_option linter.unusedSimpArgs false
def impl_Net_learnt.f (k : Nat) (lt : List S83) (lb lh : List Int) : Option (List Bool):=(impl_Net_knownTo.f k lt lb lh).bind fun kn => (impl_opened.f k lt kn).bind fun op => impl_makeable.f lt op
set_option maxHeartbeats 8000000 in
set_option maxRecDepth 100000 in
theorem impl_Net_learnt.calls (k p : Nat) (A0 A1 A2 A3 A4 A5 : Option Addr) (c0 c1 c2 c3 c4 c5 n1 n4 n5 : Nat) (lt : List S83) (lb lh : List Int) (r : List Bool) (w : World) (hI : w.heap[p]? = some (.cells #[.slice A0 lt.length c0,.slice A1 n1 c1,.slice A2 lb.length c2,.slice A3 lh.length c3,.slice A4 n4 c4,.slice A5 n5 c5] 34 (0,0))) (hr0 : Kd.C k83 w A0 lt.length lt) (hc0 : lt.length ≤ c0) (hr2 : Kd.C (Kd.int .i64) w A2 lb.length lb) (hc2 : lb.length ≤ c2) (hr3 : Kd.C (Kd.int .i64) w A3 lh.length lh) (hc3 : lh.length ≤ c3) (h : impl_Net_learnt.f k lt lb lh = some r) :
    Calls Tryz.prog 29 #[.pointer (some ⟨p,0,none⟩)] w fun e w' => ∃ v : Value,e = .returned v ∧ Kd.bool.R 4 w' w.heap.size (fun _ => True) v r ∧ Below w.heap.size w w':=by
 have hu1:=Tryz.underlying34
 have HR0:=Z_ hr0
 have HC0:=Z_ hc0
 have HR2:=Z_ hr2
 have HC2:=Z_ hc2
 have HR3:=Z_ hr3
 have HC3:=Z_ hc3
 have BI:=Z_ (bD_ hI)
 have HB:=Z_ (below_drew (Below.refl w.heap.size w))
 clear hI hr0 hc0 hr2 hc2 hr3 hc3
 unfold impl_Net_learnt.f at h
 replace h:=bS_ h
 obtain ⟨kn,HK,h⟩:=h
 replace h:=bS_ h
 obtain ⟨op,HP,h⟩:=h
 have HM:=Z_ h
 clear h
 go_enter Tryz.func29,Tryz.ntmps29
 go_wp2
 refine start_ (n:=13) (S:=fun w' => w'.cell? ⟨p,0,none⟩ = some (.slice A0 lt.length c0) ∧ True) (ds:=[]) (Bt 13 0) (by kernel_rfl) rfl rfl ⟨(blk_cell BI.out 0).trans rfl,trivial⟩ (fun hHeld => ?_)
 generalize w.drew = wD at BI HB hHeld ⊢
 refine pu_ 0 (some 3) (Bt 13 1) (by kernel_rfl) ?_
 refine pu_ 1 (some 4) (Bt 13 3) (by kernel_rfl) ?_
 refine pu_ 2 (some 5) (Bt 13 7) (by kernel_rfl) ?_
 refine ta_ 3 (some 6) (Bt 13 15) (by kernel_rfl) hHeld ?_
 refine pu_ 4 (some 7) (Bt 13 31) (by kernel_rfl) ?_
 refine pu_ 5 (some 8) (Bt 13 63) (by kernel_rfl) ?_
 refine pu_ 6 (some 9) (Bt 13 127) (by kernel_rfl) ?_
 refine ta_ 7 (some 10) (Bt 13 255) (by kernel_rfl) hHeld ?_
 refine pu_ 8 (some 11) (Bt 13 511) (by kernel_rfl) ?_
 refine one_ (i:=9) (N:=some 12) (Bt 13 1023) rfl rfl (by kernel_rfl) (by decide) (fun K hK => ?_)
 refine goes_ Tryz.func35 (by kernel_rfl) rfl #[.pointer (some ⟨p,0,none⟩)] (by rfl) rfl rfl (by (try simp only [List.map_toArray,List.map_cons,List.map_nil]);first | done | rfl) ?_
 refine (impl_Net_knownTo.calls k p A0 A1 A2 A3 A4 A5 c0 c1 c2 c3 c4 c5 n1 n4 n5 lt lb lh kn _ BI.out (Kd.C_below HR0.out HB.out) HC0.out (Kd.C_below HR2.out HB.out) HC2.out (Kd.C_below HR3.out HB.out) HC3.out HK.out).mono ?_
 rintro e w12 ⟨v12,rfl,ho_,hb_⟩
 refine ⟨_,rfl,?_⟩
 have HQ:=Z_ (Kd.R_lower ho_ (below_size HB.out))
 replace BI:=Z_ (bB_ BI.out hb_)
 replace HB:=Z_ (lP_ HB.out hb_)
 clear ho_ hb_
 obtain ⟨A12,c12,e_⟩:=Kd.R_slice HQ.out
 subst e_
 refine hK.out _ _ ⟨(blk_cell BI.out 0).trans rfl,trivial⟩ (fun hHeld => ?_)
 clear hK K
 refine norm_ (a':=?_) ?_ ?_
 rotate_left
 ·show Act.put _ (some 12) _ = _
  simp only [Act.put,lA_,lZ_,lS_,i64_w,i32_w]
  rfl
 refine one_ (i:=10) (N:=some 13) (Bt 13 2047) rfl rfl (by kernel_rfl) (by decide) (fun K hK => ?_)
 refine goes_ Tryz.func63 (by kernel_rfl) rfl #[.slice A0 lt.length c0,.slice A12 kn.length c12] (by rfl) rfl rfl (by (try simp only [List.map_toArray,List.map_cons,List.map_nil]);first | done | rfl) ?_
 refine (impl_opened.calls k A0 c0 lt A12 c12 kn op _ (Kd.C_below HR0.out HB.out) HC0.out (Kd.R_reads' HQ.out).2.2 (Kd.R_reads' HQ.out).2.1 HP.out).mono ?_
 rintro e w13 ⟨v13,rfl,ho_,hb_⟩
 refine ⟨_,rfl,?_⟩
 have HS:=Z_ (Kd.R_lower ho_ (below_size HB.out))
 replace BI:=Z_ (bB_ BI.out hb_)
 replace HB:=Z_ (lP_ HB.out hb_)
 clear ho_ hb_
 obtain ⟨A13,c13,e_⟩:=Kd.R_slice HS.out
 subst e_
 refine hK.out _ _ ⟨(blk_cell BI.out 0).trans rfl,trivial⟩ (fun hHeld => ?_)
 clear hK K
 refine norm_ (a':=?_) ?_ ?_
 rotate_left
 ·show Act.put _ (some 13) _ = _
  simp only [Act.put,lA_,lZ_,lS_,i64_w,i32_w]
  rfl
 refine one_ (i:=11) (N:=some 14) (Bt 13 4095) rfl rfl (by kernel_rfl) (by decide) (fun K hK => ?_)
 refine goes_ Tryz.func62 (by kernel_rfl) rfl #[.slice A0 lt.length c0,.slice A13 op.length c13] (by rfl) rfl rfl (by (try simp only [List.map_toArray,List.map_cons,List.map_nil]);first | done | rfl) ?_
 refine (impl_makeable.calls A0 c0 lt A13 c13 op r _ (Kd.C_below HR0.out HB.out) HC0.out (Kd.R_reads' HS.out).2.2 (Kd.R_reads' HS.out).2.1 HM.out).mono ?_
 rintro e w14 ⟨v14,rfl,ho_,hb_⟩
 refine ⟨_,rfl,?_⟩
 have HT:=Z_ (Kd.R_lower ho_ (below_size HB.out))
 replace BI:=Z_ (bB_ BI.out hb_)
 replace HB:=Z_ (lP_ HB.out hb_)
 clear ho_ hb_
 obtain ⟨A14,c14,e_⟩:=Kd.R_slice HT.out
 subst e_
 refine hK.out _ _ ⟨(blk_cell BI.out 0).trans rfl,trivial⟩ (fun hHeld => ?_)
 clear hK K
 refine norm_ (a':=?_) ?_ ?_
 rotate_left
 ·show Act.put _ (some 14) _ = _
  simp only [Act.put,lA_,lZ_,lS_,i64_w,i32_w]
  rfl
 refine pu_ 12 (some 2) (Bt 13 8191) (by kernel_rfl) ?_
 refine done_ (by kernel_rfl) ?_
 go_wp2
 go_ret
 exact ⟨_,rfl,HT.out,HB.out⟩
def impl_LearnsIt.f (k : Nat) (lt : List S83) (lg : List S76) (lb lh : List Int) (lv : List S88) (lw : List S88) (at_ : Int) : Option Bool:=(impl_NetFault.f k lt lg lb lh lv lw).bind fun c => if c = 0 then (impl_isPlace.f lt at_).bind fun b => if b = true then (impl_Net_learnt.f k lt lb lh).bind fun can => if 0 ≤ at_ ∧ at_ < (can.length : Int) then some (can.getD at_.toNat false) else none else some false else some false
set_option maxHeartbeats 8000000 in
set_option maxRecDepth 100000 in
theorem impl_LearnsIt.calls (k : Nat) (A0 : Option Addr) (c0 : Nat) (lt : List (S83)) (A1 : Option Addr) (c1 : Nat) (lg : List (S76)) (A2 : Option Addr) (c2 : Nat) (lb : List Int) (A3 : Option Addr) (c3 : Nat) (lh : List Int) (A4 : Option Addr) (c4 : Nat) (lv : List (S88)) (A5 : Option Addr) (c5 : Nat) (lw : List (S88)) (at_ : Int) (r : Bool) (w : World) (hr0 : Kd.C k83 w A0 lt.length lt) (hc0 : lt.length ≤ c0) (hr1 : Kd.C k76 w A1 lg.length lg) (hc1 : lg.length ≤ c1) (hr2 : Kd.C (Kd.int .i64) w A2 lb.length lb) (hc2 : lb.length ≤ c2) (hr3 : Kd.C (Kd.int .i64) w A3 lh.length lh) (hc3 : lh.length ≤ c3) (hr4 : Kd.C k88 w A4 lv.length lv) (hc4 : lv.length ≤ c4) (hr5 : Kd.C k88 w A5 lw.length lw) (hc5 : lw.length ≤ c5) (h : impl_LearnsIt.f k lt lg lb lh lv lw at_ = some r) :
    Calls Tryz.prog 8 #[.agg #[.slice A0 lt.length c0,.slice A1 lg.length c1,.slice A2 lb.length c2,.slice A3 lh.length c3,.slice A4 lv.length c4,.slice A5 lw.length c5],.int .i64 at_] w fun e w' => e = .returned (.bool r) ∧ Below w.heap.size w w':=by
 have hu1:=Tryz.underlying34
 have HR0:=Z_ hr0
 have HC0:=Z_ hc0
 have HR1:=Z_ hr1
 have HC1:=Z_ hc1
 have HR2:=Z_ hr2
 have HC2:=Z_ hc2
 have HR3:=Z_ hr3
 have HC3:=Z_ hc3
 have HR4:=Z_ hr4
 have HC4:=Z_ hc4
 have HR5:=Z_ hr5
 have HC5:=Z_ hc5
 have HB:=Z_ (Below.refl w.heap.size w)
 clear hr0 hc0 hr1 hc1 hr2 hc2 hr3 hc3 hr4 hc4 hr5 hc5
 unfold impl_LearnsIt.f at h
 replace h:=bS_ h
 obtain ⟨c,HF,h⟩:=h
 by_cases hz : c = 0
 rotate_left
 ·rw [if_neg hz] at h
  obtain ⟨_,_,_⟩:=eqFH hz
  clear hz
  obtain rfl:=Option.some.inj h
  go_enter Tryz.func8,Tryz.ntmps8
  go_wp2_with (first | ((with_reducible refine gD_ 2 rfl ?_);refine bx_ #[.slice A0 lt.length c0,.slice A1 lg.length c1,.slice A2 lb.length c2,.slice A3 lh.length c3,.slice A4 lv.length c4,.slice A5 lw.length c5] 34 ?_;intro g2 hg w3 hbox hb;replace HB:=Z_ (lP_ HB.out hb);have BI:=Z_ hbox;clear hb hbox hg;obtain ⟨_,_,_,_,_,_,_,_,_,_,_,_⟩:=bc6 BI.out) | (go_at_call 27;refine (impl_NetFault.calls k A0 c0 lt A1 c1 lg A2 c2 lb A3 c3 lh A4 c4 lv A5 c5 lw c _ (Kd.C_below HR0.out Lb_) HC0.out (Kd.C_below HR1.out Lb_) HC1.out (Kd.C_below HR2.out Lb_) HC2.out (Kd.C_below HR3.out Lb_) HC3.out (Kd.C_below HR4.out Lb_) HC4.out (Kd.C_below HR5.out Lb_) HC5.out HF.out).mono ?_;rintro e w5 ⟨rfl,hb⟩;replace BI:=Z_ (bB_ (Bk_ BI) hb);replace HB:=Z_ (lP_ Lb_ hb);clear hb;obtain ⟨_,_,_,_,_,_,_,_,_,_,_,_⟩:=bc6 BI.out))
  go_ret
  exact ⟨rfl,Lb_⟩
 rw [if_pos hz] at h
 subst hz
 replace h:=bS_ h
 obtain ⟨b,HG,h⟩:=h
 cases b with
 | false =>
  rw [if_neg (by decide)] at h
  obtain rfl:=Option.some.inj h
  go_enter Tryz.func8,Tryz.ntmps8
  go_wp2_with (first | ((with_reducible refine gD_ 2 rfl ?_);refine bx_ #[.slice A0 lt.length c0,.slice A1 lg.length c1,.slice A2 lb.length c2,.slice A3 lh.length c3,.slice A4 lv.length c4,.slice A5 lw.length c5] 34 ?_;intro g2 hg w3 hbox hb;replace HB:=Z_ (lP_ HB.out hb);have BI:=Z_ hbox;clear hb hbox hg;obtain ⟨_,_,_,_,_,_,_,_,_,_,_,_⟩:=bc6 BI.out) | (go_at_call 27;refine (impl_NetFault.calls k A0 c0 lt A1 c1 lg A2 c2 lb A3 c3 lh A4 c4 lv A5 c5 lw 0 _ (Kd.C_below HR0.out Lb_) HC0.out (Kd.C_below HR1.out Lb_) HC1.out (Kd.C_below HR2.out Lb_) HC2.out (Kd.C_below HR3.out Lb_) HC3.out (Kd.C_below HR4.out Lb_) HC4.out (Kd.C_below HR5.out Lb_) HC5.out HF.out).mono ?_;rintro e w5 ⟨rfl,hb⟩;replace BI:=Z_ (bB_ (Bk_ BI) hb);replace HB:=Z_ (lP_ Lb_ hb);clear hb;obtain ⟨_,_,_,_,_,_,_,_,_,_,_,_⟩:=bc6 BI.out) | (go_at_call 28;refine (impl_isPlace.calls A0 c0 lt at_ _ _ (Kd.C_below HR0.out Lb_) HC0.out HG.out).mono ?_;rintro e w' ⟨rfl,⟨nd,rfl⟩⟩))
  go_ret
  exact ⟨rfl,Lb_⟩
 | true =>
  rw [if_pos rfl] at h
  replace h:=bS_ h
  obtain ⟨can,HL,h⟩:=h
  replace h:=iN_ h
  obtain ⟨⟨ha0,ha1⟩,h⟩:=h
  replace h:=Option.some.inj h
  have HM:=Z_ h
  clear h
  go_enter Tryz.func8,Tryz.ntmps8
  go_wp2_with (first | ((with_reducible refine gD_ 2 rfl ?_);refine bx_ #[.slice A0 lt.length c0,.slice A1 lg.length c1,.slice A2 lb.length c2,.slice A3 lh.length c3,.slice A4 lv.length c4,.slice A5 lw.length c5] 34 ?_;intro g2 hg w3 hbox hb;replace HB:=Z_ (lP_ HB.out hb);have BI:=Z_ hbox;clear hb hbox hg;obtain ⟨_,_,_,_,_,_,_,_,_,_,_,_⟩:=bc6 BI.out) | (go_at_call 27;refine (impl_NetFault.calls k A0 c0 lt A1 c1 lg A2 c2 lb A3 c3 lh A4 c4 lv A5 c5 lw 0 _ (Kd.C_below HR0.out Lb_) HC0.out (Kd.C_below HR1.out Lb_) HC1.out (Kd.C_below HR2.out Lb_) HC2.out (Kd.C_below HR3.out Lb_) HC3.out (Kd.C_below HR4.out Lb_) HC4.out (Kd.C_below HR5.out Lb_) HC5.out HF.out).mono ?_;rintro e w5 ⟨rfl,hb⟩;replace BI:=Z_ (bB_ (Bk_ BI) hb);replace HB:=Z_ (lP_ Lb_ hb);clear hb;obtain ⟨_,_,_,_,_,_,_,_,_,_,_,_⟩:=bc6 BI.out) | (go_at_call 28;refine (impl_isPlace.calls A0 c0 lt at_ _ _ (Kd.C_below HR0.out Lb_) HC0.out HG.out).mono ?_;rintro e w' ⟨rfl,⟨nd,rfl⟩⟩) | (go_at_call 29;refine (impl_Net_learnt.calls k g2 A0 A1 A2 A3 A4 A5 c0 c1 c2 c3 c4 c5 lg.length lv.length lw.length lt lb lh can _ (Bk_ BI) (Kd.C_below HR0.out Lb_) HC0.out (Kd.C_below HR2.out Lb_) HC2.out (Kd.C_below HR3.out Lb_) HC3.out HL.out).mono ?_;rintro e w6 ⟨v15,rfl,ho,hb⟩;have HO:=Z_ (Kd.R_lower ho (below_size Lb_));replace HB:=Z_ (lP_ Lb_ hb);clear ho hb;obtain ⟨A15,c15,e15⟩:=Kd.R_slice HO.out;subst e15;obtain ⟨ad_,ea_,hcn⟩:=Kd.at_bool (Kd.R_reads' HO.out).2.2 at_ ha0 ha1;subst ea_;rw [show rdOf false can at_ = r from HM.out] at hcn))
  go_ret
  exact ⟨rfl,Lb_⟩
def laws_eqTerm.f (a0_0 a0_1 a0_2 a0_3 a1_0 a1_1 a1_2 a1_3 : Int) : Option (Bool):=if a0_0 = a1_0 then (if a0_1 = a1_1 then (if a0_2 = a1_2 then (if a0_3 = a1_3 then (some true) else (some false)) else (some false)) else (some false)) else (some false)
set_option maxHeartbeats 8000000 in
set_option maxRecDepth 100000 in
theorem laws_eqTerm.calls (a0_0 a0_1 a0_2 a0_3 a1_0 a1_1 a1_2 a1_3 : Int) (r : Bool) (w : World) (h : laws_eqTerm.f a0_0 a0_1 a0_2 a0_3 a1_0 a1_1 a1_2 a1_3 = some r) :
  Calls Tryz.prog 64 #[.agg #[.int .i64 a0_0,.int .i64 a0_1,.int .i64 a0_2,.int .i64 a0_3],.agg #[.int .i64 a1_0,.int .i64 a1_1,.int .i64 a1_2,.int .i64 a1_3]] w fun e w' => e = .returned (.bool r) ∧ Below w.heap.size w w':=by
 have hu83:=Tryz.underlying83
 have HB:=Z_ (Below.refl w.heap.size w)
 unfold laws_eqTerm.f at h
 have H:=h
 clear h
 replace H:=iE_ H
 obtain ⟨c3b0,c3b1,H⟩ | ⟨c3b0,c3b1,H⟩:=H
 replace H:=iE_ H
 obtain ⟨c4b0,c4b1,H⟩ | ⟨c4b0,c4b1,H⟩:=H
 replace H:=iE_ H
 obtain ⟨c5b0,c5b1,H⟩ | ⟨c5b0,c5b1,H⟩:=H
 replace H:=iE_ H
 obtain ⟨c6b0,c6b1,H⟩ | ⟨c6b0,c6b1,H⟩:=H
 all_goals
  obtain rfl:=Option.some.inj H
  go_enter Tryz.func64,Tryz.ntmps64
  go_wp2_with (first | ((with_reducible refine gD_ 2 rfl ?_);refine bx_ #[.int .i64 a0_0,.int .i64 a0_1,.int .i64 a0_2,.int .i64 a0_3] 83 ?_;intro a3 hg w12 hbox hb;have a0:=Z_ hbox;have a5:=Z_ ((by rw [hg];exact (below_size Lb_) : w.heap.size ≤ a3));replace HB:=Z_ (lP_ Lb_ hb);clear hb hbox hg) | ((with_reducible refine gD_ 3 rfl ?_);refine bx_ #[.int .i64 a1_0,.int .i64 a1_1,.int .i64 a1_2,.int .i64 a1_3] 83 ?_;intro a4 hg w13 hbox hb;have a6:=Z_ hbox;have a7:=Z_ ((by rw [hg];exact (below_size HB.out) : w.heap.size ≤ a4));replace HB:=Z_ (lP_ HB.out hb);have a1:=Z_ ((by rw [hg];exact Nat.ne_of_lt (blk_lt a0.out) : a3 ≠ a4));replace a0:=Z_ (bB_ a0.out hb);have a2:=Z_ a1.out.symm;clear hb hbox hg;have a8:=a1.out;have a9:=a2.out;obtain ⟨_,_,_,_,_,_,_,_⟩:=bc4 a0.out;obtain ⟨_,_,_,_,_,_,_,_⟩:=bc4 a6.out))
  go_ret
  exact ⟨Er_,Lb_⟩
def laws_eqTermS.l0 : Nat → List (S83) → List (S83) → Int → Option (Bool)
 | 0,_,_,_ => none
 | k + 1,x0,x1,x5 => if x5 < (x0.length : Int) then (if 0 ≤ x5 then (if x5 < (x1.length : Int) then ((laws_eqTerm.f ((rd_T83 x0 x5).f0) ((rd_T83 x0 x5).f1) ((rd_T83 x0 x5).f2) ((rd_T83 x0 x5).f3) ((rd_T83 x1 x5).f0) ((rd_T83 x1 x5).f1) ((rd_T83 x1 x5).f2) ((rd_T83 x1 x5).f3)).bind fun t419 => (if t419 = true then (laws_eqTermS.l0 k x0 x1 (wrap64 (x5 + 1))) else (some false))) else (none)) else (none)) else (some true)
def laws_eqTermS.f (k : Nat) (l0 l1 : List (S83)) : Option (Bool):=if (l0.length : Int) = (l1.length : Int) then (laws_eqTermS.l0 k l0 l1 0) else (some false)
def laws_eqTermS.T6 : Bool × List (List Nat × List Nat):=(true,[([],[]),([],[]),([0,1],[0,1]),([2],[2]),([],[]),([],[]),([4,5],[4,5]),([6],[6]),([3,7],[3,7]),([8],[8])])
def laws_eqTermS.B6 : List Nat:=[0,0,3,7,0,0,48,112,255,511]
theorem laws_eqTermS.tab6 : rtab .any (opsOf Tryz.f30 6) = laws_eqTermS.T6:=by kernel_rfl
theorem laws_eqTermS.bits6 : waitsOk laws_eqTermS.T6.2 laws_eqTermS.B6 = true:=by kernel_rfl
set_option maxHeartbeats 8000000 in
set_option maxRecDepth 100000 in
theorem laws_eqTermS.calls (k : Nat) (A0 : Option Addr) (c0 : Nat) (l0 : List (S83)) (A1 : Option Addr) (c1 : Nat) (l1 : List (S83)) (r : Bool) (w : World) (hr0 : Kd.C k83 w A0 l0.length l0) (hc0 : l0.length ≤ c0) (hr1 : Kd.C k83 w A1 l1.length l1) (hc1 : l1.length ≤ c1) (h : laws_eqTermS.f k l0 l1 = some r) :
  Calls Tryz.prog 30 #[.slice A0 l0.length c0,.slice A1 l1.length c1] w fun e w' => e = .returned (.bool r) ∧ Below w.heap.size w w':=by
 have hu83:=Tryz.underlying83
 have a0:=Z_ hr0
 have a3:=Z_ hc0
 clear hr0 hc0
 have a1:=Z_ hr1
 have a4:=Z_ hc1
 clear hr1 hc1
 have HB:=Z_ (Below.refl w.heap.size w)
 unfold laws_eqTermS.f at h
 have H:=h
 clear h
 replace H:=iC_ H
 obtain ⟨c3,H⟩ | ⟨c3,H⟩:=H
 rotate_left
 ·have c3b0 : ((l0.length : Int) == (l1.length : Int)) = false:=beq_eq_false_iff_ne.mpr c3
  have c3b1 : ((l0.length : Int) != (l1.length : Int)) = true:=bne_iff_ne.mpr c3
  have c3b2 : (l0.length == l1.length) = false:=by first | simpa using c3 | (simp at c3 ⊢;omega)
  obtain rfl:=Option.some.inj H
  go_enter Tryz.func30,Tryz.ntmps30
  go_wp2
  go_ret
  exact ⟨Er_,Lb_⟩
 rotate_right
 have c3b0 : ((l0.length : Int) == (l1.length : Int)) = true:=beq_iff_eq.mpr c3
 have c3b1 : ((l0.length : Int) != (l1.length : Int)) = false:=bne_eq_false_iff_eq.mpr c3
 have c3b2 : (l0.length == l1.length) = true:=by first | simpa using c3 | (simp at c3 ⊢;omega)
 clear c3
 have H':=Z_ H
 clear H
 go_enter Tryz.func30,Tryz.ntmps30
 go_wp2
 go_loopg [5] k (fun kq v5 w' => ∃ (x5_1 : Int),v5 = .int .i64 x5_1 ∧ Aside0 (laws_eqTermS.l0 kq l0 l1 x5_1 = some r) ∧ Aside0 (kq ≤ k) ∧ Aside0 (Below w.heap.size w w'))
 case atStart => exact ⟨(0),Sr_,H',⟨Nat.le_refl _⟩,⟨Lb_⟩⟩
 case round =>
  clear H'
  try clear c1
  try clear p2
  try clear c3
  try clear c3b0
  try clear c3b1
  try clear c3b2
  obtain ⟨x5_1,rfl,HA,HK1,HB⟩:=hrel
  cases gk with
  | zero => exact absurd HA.out (by simp [laws_eqTermS.l0])
  | succ k1 =>
   have H:=HA.out
   clear HA
   simp only [laws_eqTermS.l0] at H
   replace H:=iD_ H
   obtain ⟨c4b0,H⟩ | ⟨c4b0,H⟩:=H
   rotate_left
   ·obtain rfl:=Option.some.inj H
    go_wp2
    go_ret
    exact ⟨Er_,Lb_⟩
   rotate_right
   replace H:=iM_ H
   obtain ⟨c5b0,H⟩:=H
   replace H:=iM_ H
   obtain ⟨c6b0,H⟩:=H
   replace H:=bS_ H
   obtain ⟨t419,A7,H⟩:=H
   replace H:=iB_ H
   obtain ⟨rfl,H⟩ | ⟨rfl,H⟩:=H
   rotate_left
   ·obtain rfl:=Option.some.inj H
    try go_wp2
    replace HB:=Z_ (lD_ HB.out)
    have p417 : 0 ≤ (x5_1 : Int):=dA_
    have q417 : x5_1 < (l0.length : Int):=dA_
    obtain ⟨ad417,e417,hx417_0,hx417_1,hx417_2,hx417_3⟩:=at_T83 a0.out x5_1 p417 q417
    have hw417_3:=hx417_3
    have hw417_2:=hx417_2
    have hw417_1:=hx417_1
    have hw417_0:=hx417_0
    cases e417
    replace hx417_0:=cB_ HB hx417_0
    replace hx417_1:=cB_ HB hx417_1
    replace hx417_2:=cB_ HB hx417_2
    replace hx417_3:=cB_ HB hx417_3
    replace p417:=eq_true p417
    replace q417:=eq_true q417
    have p418 : 0 ≤ (x5_1 : Int):=dA_
    have q418 : x5_1 < (l1.length : Int):=dA_
    obtain ⟨ad418,e418,hx418_0,hx418_1,hx418_2,hx418_3⟩:=at_T83 a1.out x5_1 p418 q418
    have hw418_3:=hx418_3
    have hw418_2:=hx418_2
    have hw418_1:=hx418_1
    have hw418_0:=hx418_0
    cases e418
    replace hx418_0:=cB_ HB hx418_0
    replace hx418_1:=cB_ HB hx418_1
    replace hx418_2:=cB_ HB hx418_2
    replace hx418_3:=cB_ HB hx418_3
    replace p418:=eq_true p418
    replace q418:=eq_true q418
    refine start_ (n:=10) (S:=fun w' => w'.cell? (ad417.add ((x5_1).toNat * 4)) = some (.int .i64 ((rd_T83 l0 x5_1).f0)) ∧ w'.cell? ⟨(ad417.add ((x5_1).toNat * 4)).block,(ad417.add ((x5_1).toNat * 4)).off + 1,none⟩ = some (.int .i64 ((rd_T83 l0 x5_1).f1)) ∧ w'.cell? ⟨(ad417.add ((x5_1).toNat * 4)).block,(ad417.add ((x5_1).toNat * 4)).off + 2,none⟩ = some (.int .i64 ((rd_T83 l0 x5_1).f2)) ∧ w'.cell? ⟨(ad417.add ((x5_1).toNat * 4)).block,(ad417.add ((x5_1).toNat * 4)).off + 3,none⟩ = some (.int .i64 ((rd_T83 l0 x5_1).f3)) ∧ w'.cell? (ad418.add ((x5_1).toNat * 4)) = some (.int .i64 ((rd_T83 l1 x5_1).f0)) ∧ w'.cell? ⟨(ad418.add ((x5_1).toNat * 4)).block,(ad418.add ((x5_1).toNat * 4)).off + 1,none⟩ = some (.int .i64 ((rd_T83 l1 x5_1).f1)) ∧ w'.cell? ⟨(ad418.add ((x5_1).toNat * 4)).block,(ad418.add ((x5_1).toNat * 4)).off + 2,none⟩ = some (.int .i64 ((rd_T83 l1 x5_1).f2)) ∧ w'.cell? ⟨(ad418.add ((x5_1).toNat * 4)).block,(ad418.add ((x5_1).toNat * 4)).off + 3,none⟩ = some (.int .i64 ((rd_T83 l1 x5_1).f3))) (ds:=[]) (Bt 10 0) (by kernel_rfl) rfl rfl ⟨(cB_ HB hw417_0),(cB_ HB hw417_1),(cB_ HB hw417_2),(cB_ HB hw417_3),(cB_ HB hw418_0),(cB_ HB hw418_1),(cB_ HB hw418_2),(cB_ HB hw418_3)⟩ (fun hHeld => ?_);refine with_tabW laws_eqTermS.tab6 laws_eqTermS.bits6 (fun HT_ HW_ => ?_)
    generalize wr.drew = w11 at HB hx417_0 hx417_1 hx417_2 hx417_3 hx418_0 hx418_1 hx418_2 hx418_3 hHeld ⊢
    refine pu_ 0 (some 17) (Bt 10 1) (any_of HT_.out (by kernel_rfl)) ?_
    refine pu_ 1 (some 18) (Bt 10 3) (any_of HT_.out (by kernel_rfl)) ?_
    refine pu_ 2 (some 19) (Bt 10 7) (any_of HT_.out (by kernel_rfl)) ?_
    refine pu_ 4 (some 21) (Bt 10 23) (any_of HT_.out (by kernel_rfl)) ?_
    refine pu_ 5 (some 22) (Bt 10 55) (any_of HT_.out (by kernel_rfl)) ?_
    refine pu_ 6 (some 23) (Bt 10 119) (any_of HT_.out (by kernel_rfl)) ?_
    refine ta_ 3 (some 20) (Bt 10 127) (take_ofW HT_.out HW_.out (by kernel_rfl)) hHeld ?_
    refine ta_ 7 (some 24) (Bt 10 255) (take_ofW HT_.out HW_.out (by kernel_rfl)) hHeld ?_
    refine one_ (i:=8) (N:=some 25) (Bt 10 511) rfl rfl (one_of HT_.out (by kernel_rfl)) (by decide) (fun K hK => ?_)
    refine goes_ Tryz.func64 (by kernel_rfl) rfl #[.agg #[.int .i64 ((rd_T83 l0 x5_1).f0),.int .i64 ((rd_T83 l0 x5_1).f1),.int .i64 ((rd_T83 l0 x5_1).f2),.int .i64 ((rd_T83 l0 x5_1).f3)],.agg #[.int .i64 ((rd_T83 l1 x5_1).f0),.int .i64 ((rd_T83 l1 x5_1).f1),.int .i64 ((rd_T83 l1 x5_1).f2),.int .i64 ((rd_T83 l1 x5_1).f3)]] (by rfl) rfl rfl (by (try simp only [List.map_toArray,List.map_cons,List.map_nil]);first | done | rfl | (simp only [List.length_drop,List.length_take];rfl)) ?_
    with_reducible refine (laws_eqTerm.calls ((rd_T83 l0 x5_1).f0) ((rd_T83 l0 x5_1).f1) ((rd_T83 l0 x5_1).f2) ((rd_T83 l0 x5_1).f3) ((rd_T83 l1 x5_1).f0) ((rd_T83 l1 x5_1).f1) ((rd_T83 l1 x5_1).f2) ((rd_T83 l1 x5_1).f3) false _ A7.out).mono ?_
    rintro e w12 ⟨rfl,hb⟩
    refine ⟨_,rfl,?_⟩
    replace HB:=Z_ (lP_ Lb_ hb)
    (try clear hb)
    (try clear hb2)
    (try clear hk)
    (try clear hi)
    refine hK.out _ _ ⟨(cB_ HB hw417_0),(cB_ HB hw417_1),(cB_ HB hw417_2),(cB_ HB hw417_3),(cB_ HB hw418_0),(cB_ HB hw418_1),(cB_ HB hw418_2),(cB_ HB hw418_3)⟩ (fun hHeld => ?_)
    clear hK K
    refine norm_ (a':=?_) ?_ ?_
    rotate_left
    ·show Act.put _ (some 25) _ = _
     simp only [Act.put,lA_,lZ_,lS_,i64_w,i32_w]
     rfl
    refine pu_ 9 (some 26) (Bt 10 1023) (any_of HT_.out (by kernel_rfl)) ?_
    refine done_ (done_of HT_.out (by kernel_rfl)) ?_
    try go_wp2
    go_ret
    exact ⟨Er_,Lb_⟩
   rotate_right
   have H':=Z_ H
   clear H
   try go_wp2
   replace HB:=Z_ (lD_ HB.out)
   have p417 : 0 ≤ (x5_1 : Int):=dA_
   have q417 : x5_1 < (l0.length : Int):=dA_
   obtain ⟨ad417,e417,hx417_0,hx417_1,hx417_2,hx417_3⟩:=at_T83 a0.out x5_1 p417 q417
   have hw417_3:=hx417_3
   have hw417_2:=hx417_2
   have hw417_1:=hx417_1
   have hw417_0:=hx417_0
   cases e417
   replace hx417_0:=cB_ HB hx417_0
   replace hx417_1:=cB_ HB hx417_1
   replace hx417_2:=cB_ HB hx417_2
   replace hx417_3:=cB_ HB hx417_3
   replace p417:=eq_true p417
   replace q417:=eq_true q417
   have p418 : 0 ≤ (x5_1 : Int):=dA_
   have q418 : x5_1 < (l1.length : Int):=dA_
   obtain ⟨ad418,e418,hx418_0,hx418_1,hx418_2,hx418_3⟩:=at_T83 a1.out x5_1 p418 q418
   have hw418_3:=hx418_3
   have hw418_2:=hx418_2
   have hw418_1:=hx418_1
   have hw418_0:=hx418_0
   cases e418
   replace hx418_0:=cB_ HB hx418_0
   replace hx418_1:=cB_ HB hx418_1
   replace hx418_2:=cB_ HB hx418_2
   replace hx418_3:=cB_ HB hx418_3
   replace p418:=eq_true p418
   replace q418:=eq_true q418
   refine start_ (n:=10) (S:=fun w' => w'.cell? (ad417.add ((x5_1).toNat * 4)) = some (.int .i64 ((rd_T83 l0 x5_1).f0)) ∧ w'.cell? ⟨(ad417.add ((x5_1).toNat * 4)).block,(ad417.add ((x5_1).toNat * 4)).off + 1,none⟩ = some (.int .i64 ((rd_T83 l0 x5_1).f1)) ∧ w'.cell? ⟨(ad417.add ((x5_1).toNat * 4)).block,(ad417.add ((x5_1).toNat * 4)).off + 2,none⟩ = some (.int .i64 ((rd_T83 l0 x5_1).f2)) ∧ w'.cell? ⟨(ad417.add ((x5_1).toNat * 4)).block,(ad417.add ((x5_1).toNat * 4)).off + 3,none⟩ = some (.int .i64 ((rd_T83 l0 x5_1).f3)) ∧ w'.cell? (ad418.add ((x5_1).toNat * 4)) = some (.int .i64 ((rd_T83 l1 x5_1).f0)) ∧ w'.cell? ⟨(ad418.add ((x5_1).toNat * 4)).block,(ad418.add ((x5_1).toNat * 4)).off + 1,none⟩ = some (.int .i64 ((rd_T83 l1 x5_1).f1)) ∧ w'.cell? ⟨(ad418.add ((x5_1).toNat * 4)).block,(ad418.add ((x5_1).toNat * 4)).off + 2,none⟩ = some (.int .i64 ((rd_T83 l1 x5_1).f2)) ∧ w'.cell? ⟨(ad418.add ((x5_1).toNat * 4)).block,(ad418.add ((x5_1).toNat * 4)).off + 3,none⟩ = some (.int .i64 ((rd_T83 l1 x5_1).f3))) (ds:=[]) (Bt 10 0) (by kernel_rfl) rfl rfl ⟨(cB_ HB hw417_0),(cB_ HB hw417_1),(cB_ HB hw417_2),(cB_ HB hw417_3),(cB_ HB hw418_0),(cB_ HB hw418_1),(cB_ HB hw418_2),(cB_ HB hw418_3)⟩ (fun hHeld => ?_);refine with_tabW laws_eqTermS.tab6 laws_eqTermS.bits6 (fun HT_ HW_ => ?_)
   generalize wr.drew = w9 at HB hx417_0 hx417_1 hx417_2 hx417_3 hx418_0 hx418_1 hx418_2 hx418_3 hHeld ⊢
   refine pu_ 0 (some 17) (Bt 10 1) (any_of HT_.out (by kernel_rfl)) ?_
   refine pu_ 1 (some 18) (Bt 10 3) (any_of HT_.out (by kernel_rfl)) ?_
   refine pu_ 2 (some 19) (Bt 10 7) (any_of HT_.out (by kernel_rfl)) ?_
   refine pu_ 4 (some 21) (Bt 10 23) (any_of HT_.out (by kernel_rfl)) ?_
   refine pu_ 5 (some 22) (Bt 10 55) (any_of HT_.out (by kernel_rfl)) ?_
   refine pu_ 6 (some 23) (Bt 10 119) (any_of HT_.out (by kernel_rfl)) ?_
   refine ta_ 3 (some 20) (Bt 10 127) (take_ofW HT_.out HW_.out (by kernel_rfl)) hHeld ?_
   refine ta_ 7 (some 24) (Bt 10 255) (take_ofW HT_.out HW_.out (by kernel_rfl)) hHeld ?_
   refine one_ (i:=8) (N:=some 25) (Bt 10 511) rfl rfl (one_of HT_.out (by kernel_rfl)) (by decide) (fun K hK => ?_)
   refine goes_ Tryz.func64 (by kernel_rfl) rfl #[.agg #[.int .i64 ((rd_T83 l0 x5_1).f0),.int .i64 ((rd_T83 l0 x5_1).f1),.int .i64 ((rd_T83 l0 x5_1).f2),.int .i64 ((rd_T83 l0 x5_1).f3)],.agg #[.int .i64 ((rd_T83 l1 x5_1).f0),.int .i64 ((rd_T83 l1 x5_1).f1),.int .i64 ((rd_T83 l1 x5_1).f2),.int .i64 ((rd_T83 l1 x5_1).f3)]] (by rfl) rfl rfl (by (try simp only [List.map_toArray,List.map_cons,List.map_nil]);first | done | rfl | (simp only [List.length_drop,List.length_take];rfl)) ?_
   with_reducible refine (laws_eqTerm.calls ((rd_T83 l0 x5_1).f0) ((rd_T83 l0 x5_1).f1) ((rd_T83 l0 x5_1).f2) ((rd_T83 l0 x5_1).f3) ((rd_T83 l1 x5_1).f0) ((rd_T83 l1 x5_1).f1) ((rd_T83 l1 x5_1).f2) ((rd_T83 l1 x5_1).f3) true _ A7.out).mono ?_
   rintro e w10 ⟨rfl,hb⟩
   refine ⟨_,rfl,?_⟩
   replace HB:=Z_ (lP_ Lb_ hb)
   (try clear hb)
   (try clear hb2)
   (try clear hk)
   (try clear hi)
   refine hK.out _ _ ⟨(cB_ HB hw417_0),(cB_ HB hw417_1),(cB_ HB hw417_2),(cB_ HB hw417_3),(cB_ HB hw418_0),(cB_ HB hw418_1),(cB_ HB hw418_2),(cB_ HB hw418_3)⟩ (fun hHeld => ?_)
   clear hK K
   refine norm_ (a':=?_) ?_ ?_
   rotate_left
   ·show Act.put _ (some 25) _ = _
    simp only [Act.put,lA_,lZ_,lS_,i64_w,i32_w]
    rfl
   refine pu_ 9 (some 26) (Bt 10 1023) (any_of HT_.out (by kernel_rfl)) ?_
   refine done_ (done_of HT_.out (by kernel_rfl)) ?_
   try go_wp2
   go_roundg k1
   case measure => have:=HK1.out;omega
   case rel => exact ⟨(wrap64 (x5_1 + 1)),Sr_,H',⟨by have:=HK1.out;omega⟩,⟨Lb_⟩⟩
def laws_eqKeys.f (a0_0 a0_1 a0_2 a0_3 a1_0 a1_1 a1_2 a1_3 : Int) : Option (Bool):=if a0_0 = a1_0 then (if a0_1 = a1_1 then (if a0_2 = a1_2 then (if a0_3 = a1_3 then (some true) else (some false)) else (some false)) else (some false)) else (some false)
set_option maxHeartbeats 8000000 in
set_option maxRecDepth 100000 in
theorem laws_eqKeys.calls (a0_0 a0_1 a0_2 a0_3 a1_0 a1_1 a1_2 a1_3 : Int) (r : Bool) (w : World) (h : laws_eqKeys.f a0_0 a0_1 a0_2 a0_3 a1_0 a1_1 a1_2 a1_3 = some r) :
  Calls Tryz.prog 114 #[.agg #[.int .i64 a0_0,.int .i64 a0_1,.int .i64 a0_2,.int .i64 a0_3],.agg #[.int .i64 a1_0,.int .i64 a1_1,.int .i64 a1_2,.int .i64 a1_3]] w fun e w' => e = .returned (.bool r) ∧ Below w.heap.size w w':=by
 have hu110:=Tryz.underlying110
 have HB:=Z_ (Below.refl w.heap.size w)
 unfold laws_eqKeys.f at h
 have H:=h
 clear h
 replace H:=iE_ H
 obtain ⟨c3b0,c3b1,H⟩ | ⟨c3b0,c3b1,H⟩:=H
 replace H:=iE_ H
 obtain ⟨c4b0,c4b1,H⟩ | ⟨c4b0,c4b1,H⟩:=H
 replace H:=iE_ H
 obtain ⟨c5b0,c5b1,H⟩ | ⟨c5b0,c5b1,H⟩:=H
 replace H:=iE_ H
 obtain ⟨c6b0,c6b1,H⟩ | ⟨c6b0,c6b1,H⟩:=H
 all_goals
  obtain rfl:=Option.some.inj H
  go_enter Tryz.func114,Tryz.ntmps114
  go_wp2_with (first | ((with_reducible refine gD_ 2 rfl ?_);refine bx_ #[.int .i64 a0_0,.int .i64 a0_1,.int .i64 a0_2,.int .i64 a0_3] 110 ?_;intro a3 hg w12 hbox hb;have a0:=Z_ hbox;have a5:=Z_ ((by rw [hg];exact (below_size Lb_) : w.heap.size ≤ a3));replace HB:=Z_ (lP_ Lb_ hb);clear hb hbox hg) | ((with_reducible refine gD_ 3 rfl ?_);refine bx_ #[.int .i64 a1_0,.int .i64 a1_1,.int .i64 a1_2,.int .i64 a1_3] 110 ?_;intro a4 hg w13 hbox hb;have a6:=Z_ hbox;have a7:=Z_ ((by rw [hg];exact (below_size HB.out) : w.heap.size ≤ a4));replace HB:=Z_ (lP_ HB.out hb);have a1:=Z_ ((by rw [hg];exact Nat.ne_of_lt (blk_lt a0.out) : a3 ≠ a4));replace a0:=Z_ (bB_ a0.out hb);have a2:=Z_ a1.out.symm;clear hb hbox hg;have a8:=a1.out;have a9:=a2.out;obtain ⟨_,_,_,_,_,_,_,_⟩:=bc4 a0.out;obtain ⟨_,_,_,_,_,_,_,_⟩:=bc4 a6.out))
  go_ret
  exact ⟨Er_,Lb_⟩
def laws_eqWindow.f (a0_0 a0_1 a1_0 a1_1 : Int) : Option (Bool):=if a0_0 = a1_0 then (if a0_1 = a1_1 then (some true) else (some false)) else (some false)
set_option maxHeartbeats 8000000 in
set_option maxRecDepth 100000 in
theorem laws_eqWindow.calls (a0_0 a0_1 a1_0 a1_1 : Int) (r : Bool) (w : World) (h : laws_eqWindow.f a0_0 a0_1 a1_0 a1_1 = some r) :
  Calls Tryz.prog 115 #[.agg #[.int .i64 a0_0,.int .i64 a0_1],.agg #[.int .i64 a1_0,.int .i64 a1_1]] w fun e w' => e = .returned (.bool r) ∧ Below w.heap.size w w':=by
 have hu112:=Tryz.underlying112
 have HB:=Z_ (Below.refl w.heap.size w)
 unfold laws_eqWindow.f at h
 have H:=h
 clear h
 replace H:=iE_ H
 obtain ⟨c3b0,c3b1,H⟩ | ⟨c3b0,c3b1,H⟩:=H
 replace H:=iE_ H
 obtain ⟨c4b0,c4b1,H⟩ | ⟨c4b0,c4b1,H⟩:=H
 all_goals
  obtain rfl:=Option.some.inj H
  go_enter Tryz.func115,Tryz.ntmps115
  go_wp2_with (first | ((with_reducible refine gD_ 2 rfl ?_);refine bx_ #[.int .i64 a0_0,.int .i64 a0_1] 112 ?_;intro a3 hg w10 hbox hb;have a0:=Z_ hbox;have a5:=Z_ ((by rw [hg];exact (below_size Lb_) : w.heap.size ≤ a3));replace HB:=Z_ (lP_ Lb_ hb);clear hb hbox hg) | ((with_reducible refine gD_ 3 rfl ?_);refine bx_ #[.int .i64 a1_0,.int .i64 a1_1] 112 ?_;intro a4 hg w11 hbox hb;have a6:=Z_ hbox;have a7:=Z_ ((by rw [hg];exact (below_size HB.out) : w.heap.size ≤ a4));replace HB:=Z_ (lP_ HB.out hb);have a1:=Z_ ((by rw [hg];exact Nat.ne_of_lt (blk_lt a0.out) : a3 ≠ a4));replace a0:=Z_ (bB_ a0.out hb);have a2:=Z_ a1.out.symm;clear hb hbox hg;have a8:=a1.out;have a9:=a2.out;obtain ⟨_,_,_,_⟩:=bc2 a0.out;obtain ⟨_,_,_,_⟩:=bc2 a6.out))
  go_ret
  exact ⟨Er_,Lb_⟩
def laws_eqTalk.f (a0_0 a0_1 a0_2 a0_3 a0_4 a0_5 a0_6 a0_7 a0_8 a0_9 a0_10 a0_11 a0_12 a0_13 a0_14 a0_15 a0_16 a0_17 a0_18 a0_19 a1_0 a1_1 a1_2 a1_3 a1_4 a1_5 a1_6 a1_7 a1_8 a1_9 a1_10 a1_11 a1_12 a1_13 a1_14 a1_15 a1_16 a1_17 a1_18 a1_19 : Int) : Option (Bool):=if a0_0 = a1_0 then (if a0_1 = a1_1 then (if a0_2 = a1_2 then (if a0_3 = a1_3 then (if a0_4 = a1_4 then (if a0_5 = a1_5 then (if a0_6 = a1_6 then (if a0_7 = a1_7 then (if a0_8 = a1_8 then (if a0_9 = a1_9 then (if a0_10 = a1_10 then ((laws_eqKeys.f a0_11 a0_12 a0_13 a0_14 a1_11 a1_12 a1_13 a1_14).bind fun t426 => (if t426 = true then (if a0_15 = a1_15 then (if a0_16 = a1_16 then (if a0_17 = a1_17 then ((laws_eqWindow.f a0_18 a0_19 a1_18 a1_19).bind fun t427 => (if t427 = true then (some true) else (some false))) else (some false)) else (some false)) else (some false)) else (some false))) else (some false)) else (some false)) else (some false)) else (some false)) else (some false)) else (some false)) else (some false)) else (some false)) else (some false)) else (some false)) else (some false)
set_option maxHeartbeats 8000000 in
set_option maxRecDepth 100000 in
theorem laws_eqTalk.calls (a0_0 a0_1 a0_2 a0_3 a0_4 a0_5 a0_6 a0_7 a0_8 a0_9 a0_10 a0_11 a0_12 a0_13 a0_14 a0_15 a0_16 a0_17 a0_18 a0_19 a1_0 a1_1 a1_2 a1_3 a1_4 a1_5 a1_6 a1_7 a1_8 a1_9 a1_10 a1_11 a1_12 a1_13 a1_14 a1_15 a1_16 a1_17 a1_18 a1_19 : Int) (r : Bool) (w : World) (h : laws_eqTalk.f a0_0 a0_1 a0_2 a0_3 a0_4 a0_5 a0_6 a0_7 a0_8 a0_9 a0_10 a0_11 a0_12 a0_13 a0_14 a0_15 a0_16 a0_17 a0_18 a0_19 a1_0 a1_1 a1_2 a1_3 a1_4 a1_5 a1_6 a1_7 a1_8 a1_9 a1_10 a1_11 a1_12 a1_13 a1_14 a1_15 a1_16 a1_17 a1_18 a1_19 = some r) :
  Calls Tryz.prog 105 #[.agg #[.int .i64 a0_0,.int .i64 a0_1,.int .i64 a0_2,.int .i64 a0_3,.int .i64 a0_4,.int .i64 a0_5,.int .i64 a0_6,.int .i64 a0_7,.int .i64 a0_8,.int .i64 a0_9,.int .i64 a0_10,.int .i64 a0_11,.int .i64 a0_12,.int .i64 a0_13,.int .i64 a0_14,.int .i64 a0_15,.int .i64 a0_16,.int .i64 a0_17,.int .i64 a0_18,.int .i64 a0_19],.agg #[.int .i64 a1_0,.int .i64 a1_1,.int .i64 a1_2,.int .i64 a1_3,.int .i64 a1_4,.int .i64 a1_5,.int .i64 a1_6,.int .i64 a1_7,.int .i64 a1_8,.int .i64 a1_9,.int .i64 a1_10,.int .i64 a1_11,.int .i64 a1_12,.int .i64 a1_13,.int .i64 a1_14,.int .i64 a1_15,.int .i64 a1_16,.int .i64 a1_17,.int .i64 a1_18,.int .i64 a1_19]] w fun e w' => e = .returned (.bool r) ∧ Below w.heap.size w w':=by
 have hu114:=Tryz.underlying114
 have hu110:=Tryz.underlying110
 have hu112:=Tryz.underlying112
 have HB:=Z_ (Below.refl w.heap.size w)
 unfold laws_eqTalk.f at h
 have H:=h
 clear h
 replace H:=iE_ H
 obtain ⟨c3b0,c3b1,H⟩ | ⟨c3b0,c3b1,H⟩:=H
 replace H:=iE_ H
 obtain ⟨c4b0,c4b1,H⟩ | ⟨c4b0,c4b1,H⟩:=H
 replace H:=iE_ H
 obtain ⟨c5b0,c5b1,H⟩ | ⟨c5b0,c5b1,H⟩:=H
 replace H:=iE_ H
 obtain ⟨c6b0,c6b1,H⟩ | ⟨c6b0,c6b1,H⟩:=H
 replace H:=iE_ H
 obtain ⟨c7b0,c7b1,H⟩ | ⟨c7b0,c7b1,H⟩:=H
 replace H:=iE_ H
 obtain ⟨c8b0,c8b1,H⟩ | ⟨c8b0,c8b1,H⟩:=H
 replace H:=iE_ H
 obtain ⟨c9b0,c9b1,H⟩ | ⟨c9b0,c9b1,H⟩:=H
 replace H:=iE_ H
 obtain ⟨c10b0,c10b1,H⟩ | ⟨c10b0,c10b1,H⟩:=H
 replace H:=iE_ H
 obtain ⟨c11b0,c11b1,H⟩ | ⟨c11b0,c11b1,H⟩:=H
 replace H:=iE_ H
 obtain ⟨c12b0,c12b1,H⟩ | ⟨c12b0,c12b1,H⟩:=H
 replace H:=iE_ H
 obtain ⟨c13b0,c13b1,H⟩ | ⟨c13b0,c13b1,H⟩:=H
 replace H:=bS_ H
 obtain ⟨t426,a8,H⟩:=H
 replace H:=iB_ H
 obtain ⟨rfl,H⟩ | ⟨rfl,H⟩:=H
 replace H:=iE_ H
 obtain ⟨c16b0,c16b1,H⟩ | ⟨c16b0,c16b1,H⟩:=H
 replace H:=iE_ H
 obtain ⟨c17b0,c17b1,H⟩ | ⟨c17b0,c17b1,H⟩:=H
 replace H:=iE_ H
 obtain ⟨c18b0,c18b1,H⟩ | ⟨c18b0,c18b1,H⟩:=H
 replace H:=bS_ H
 obtain ⟨t427,ab,H⟩:=H
 replace H:=iB_ H
 obtain ⟨rfl,H⟩ | ⟨rfl,H⟩:=H
 all_goals
  obtain rfl:=Option.some.inj H
  go_enter Tryz.func105,Tryz.ntmps105
  go_wp2_with (first | ((with_reducible refine gD_ 2 rfl ?_);refine bx_ #[.int .i64 a0_0,.int .i64 a0_1,.int .i64 a0_2,.int .i64 a0_3,.int .i64 a0_4,.int .i64 a0_5,.int .i64 a0_6,.int .i64 a0_7,.int .i64 a0_8,.int .i64 a0_9,.int .i64 a0_10,.int .i64 a0_11,.int .i64 a0_12,.int .i64 a0_13,.int .i64 a0_14,.int .i64 a0_15,.int .i64 a0_16,.int .i64 a0_17,.int .i64 a0_18,.int .i64 a0_19] 114 ?_;intro a4 hg w104 hbox hb;have a0:=Z_ hbox;have a6:=Z_ ((by rw [hg];exact (below_size Lb_) : w.heap.size ≤ a4));replace HB:=Z_ (lP_ Lb_ hb);clear hb hbox hg) | ((with_reducible refine gD_ 3 rfl ?_);refine bx_ #[.int .i64 a1_0,.int .i64 a1_1,.int .i64 a1_2,.int .i64 a1_3,.int .i64 a1_4,.int .i64 a1_5,.int .i64 a1_6,.int .i64 a1_7,.int .i64 a1_8,.int .i64 a1_9,.int .i64 a1_10,.int .i64 a1_11,.int .i64 a1_12,.int .i64 a1_13,.int .i64 a1_14,.int .i64 a1_15,.int .i64 a1_16,.int .i64 a1_17,.int .i64 a1_18,.int .i64 a1_19] 114 ?_;intro a5 hg w100 hbox hb;have a3:=Z_ hbox;have a7:=Z_ ((by rw [hg];exact (below_size HB.out) : w.heap.size ≤ a5));replace HB:=Z_ (lP_ HB.out hb);have a1:=Z_ ((by rw [hg];exact Nat.ne_of_lt (blk_lt a0.out) : a4 ≠ a5));replace a0:=Z_ (bB_ a0.out hb);have a2:=Z_ a1.out.symm;clear hb hbox hg;have ac:=a1.out;have ad:=a2.out;obtain ⟨_,_,_,_,_,_,_,_,_,_,_,_,_,_,_,_,_,_,_,_,_,_,_,_,_,_,_,_,_,_,_,_,_,_,_,_,_,_,_,_⟩:=bc20 a0.out;obtain ⟨_,_,_,_,_,_,_,_,_,_,_,_,_,_,_,_,_,_,_,_,_,_,_,_,_,_,_,_,_,_,_,_,_,_,_,_,_,_,_,_⟩:=bc20 a3.out) | ((with_reducible refine gate_callee (f:=114) rfl ?_);refine goesA_ (some 64) rfl rfl Tryz.func114 (by kernel_rfl) rfl #[.agg #[.int .i64 a0_11,.int .i64 a0_12,.int .i64 a0_13,.int .i64 a0_14],.agg #[.int .i64 a1_11,.int .i64 a1_12,.int .i64 a1_13,.int .i64 a1_14]] rfl ?_;(with_reducible refine (laws_eqKeys.calls a0_11 a0_12 a0_13 a0_14 a1_11 a1_12 a1_13 a1_14 _ _ a8.out).mono ?_);rintro e w26 ⟨rfl,hb⟩;refine ⟨_,rfl,?_⟩;replace a0:=Z_ (bB_ a0.out hb);replace a3:=Z_ (bB_ a3.out hb);replace HB:=Z_ (lP_ HB.out hb);(try clear hb);obtain ⟨_,_,_,_,_,_,_,_,_,_,_,_,_,_,_,_,_,_,_,_,_,_,_,_,_,_,_,_,_,_,_,_,_,_,_,_,_,_,_,_⟩:=bc20 a0.out;obtain ⟨_,_,_,_,_,_,_,_,_,_,_,_,_,_,_,_,_,_,_,_,_,_,_,_,_,_,_,_,_,_,_,_,_,_,_,_,_,_,_,_⟩:=bc20 a3.out) | ((with_reducible refine gate_callee (f:=115) rfl ?_);refine goesA_ (some 85) rfl rfl Tryz.func115 (by kernel_rfl) rfl #[.agg #[.int .i64 a0_18,.int .i64 a0_19],.agg #[.int .i64 a1_18,.int .i64 a1_19]] rfl ?_;(with_reducible refine (laws_eqWindow.calls a0_18 a0_19 a1_18 a1_19 _ _ ab.out).mono ?_);rintro e w29 ⟨rfl,hb⟩;refine ⟨_,rfl,?_⟩;replace HB:=Z_ (lP_ Lb_ hb);(try clear hb)))
  go_ret
  exact ⟨Er_,Lb_⟩
def laws_eqTalkS.l0 : Nat → List (S114) → List (S114) → Int → Option (Bool)
 | 0,_,_,_ => none
 | k + 1,x0,x1,x5 => if x5 < (x0.length : Int) then (if 0 ≤ x5 then (if x5 < (x1.length : Int) then ((laws_eqTalk.f ((rd_T114 x0 x5).f0) ((rd_T114 x0 x5).f1) ((rd_T114 x0 x5).f2) ((rd_T114 x0 x5).f3) ((rd_T114 x0 x5).f4) ((rd_T114 x0 x5).f5) ((rd_T114 x0 x5).f6) ((rd_T114 x0 x5).f7) ((rd_T114 x0 x5).f8) ((rd_T114 x0 x5).f9) ((rd_T114 x0 x5).f10) ((rd_T114 x0 x5).f11.f0) ((rd_T114 x0 x5).f11.f1) ((rd_T114 x0 x5).f11.f2) ((rd_T114 x0 x5).f11.f3) ((rd_T114 x0 x5).f12) ((rd_T114 x0 x5).f13) ((rd_T114 x0 x5).f14) ((rd_T114 x0 x5).f15.f0) ((rd_T114 x0 x5).f15.f1) ((rd_T114 x1 x5).f0) ((rd_T114 x1 x5).f1) ((rd_T114 x1 x5).f2) ((rd_T114 x1 x5).f3) ((rd_T114 x1 x5).f4) ((rd_T114 x1 x5).f5) ((rd_T114 x1 x5).f6) ((rd_T114 x1 x5).f7) ((rd_T114 x1 x5).f8) ((rd_T114 x1 x5).f9) ((rd_T114 x1 x5).f10) ((rd_T114 x1 x5).f11.f0) ((rd_T114 x1 x5).f11.f1) ((rd_T114 x1 x5).f11.f2) ((rd_T114 x1 x5).f11.f3) ((rd_T114 x1 x5).f12) ((rd_T114 x1 x5).f13) ((rd_T114 x1 x5).f14) ((rd_T114 x1 x5).f15.f0) ((rd_T114 x1 x5).f15.f1)).bind fun t430 => (if t430 = true then (laws_eqTalkS.l0 k x0 x1 (wrap64 (x5 + 1))) else (some false))) else (none)) else (none)) else (some true)
def laws_eqTalkS.f (k : Nat) (l0 l1 : List (S114)) : Option (Bool):=if (l0.length : Int) = (l1.length : Int) then (laws_eqTalkS.l0 k l0 l1 0) else (some false)
def laws_eqTalkS.T6 : Bool × List (List Nat × List Nat):=(true,[([],[]),([],[]),([0,1],[0,1]),([2],[2]),([],[]),([],[]),([4,5],[4,5]),([6],[6]),([3,7],[3,7]),([8],[8])])
def laws_eqTalkS.B6 : List Nat:=[0,0,3,7,0,0,48,112,255,511]
theorem laws_eqTalkS.tab6 : rtab .any (opsOf Tryz.f89 6) = laws_eqTalkS.T6:=by kernel_rfl
theorem laws_eqTalkS.bits6 : waitsOk laws_eqTalkS.T6.2 laws_eqTalkS.B6 = true:=by kernel_rfl
set_option maxHeartbeats 8000000 in
set_option maxRecDepth 100000 in
theorem laws_eqTalkS.calls (k : Nat) (A0 : Option Addr) (c0 : Nat) (l0 : List (S114)) (A1 : Option Addr) (c1 : Nat) (l1 : List (S114)) (r : Bool) (w : World) (hr0 : Kd.C k114 w A0 l0.length l0) (hc0 : l0.length ≤ c0) (hr1 : Kd.C k114 w A1 l1.length l1) (hc1 : l1.length ≤ c1) (h : laws_eqTalkS.f k l0 l1 = some r) :
  Calls Tryz.prog 89 #[.slice A0 l0.length c0,.slice A1 l1.length c1] w fun e w' => e = .returned (.bool r) ∧ Below w.heap.size w w':=by
 have hu114:=Tryz.underlying114
 have a0:=Z_ hr0
 have a3:=Z_ hc0
 clear hr0 hc0
 have a1:=Z_ hr1
 have a4:=Z_ hc1
 clear hr1 hc1
 have HB:=Z_ (Below.refl w.heap.size w)
 unfold laws_eqTalkS.f at h
 have H:=h
 clear h
 replace H:=iC_ H
 obtain ⟨c3,H⟩ | ⟨c3,H⟩:=H
 rotate_left
 ·have c3b0 : ((l0.length : Int) == (l1.length : Int)) = false:=beq_eq_false_iff_ne.mpr c3
  have c3b1 : ((l0.length : Int) != (l1.length : Int)) = true:=bne_iff_ne.mpr c3
  have c3b2 : (l0.length == l1.length) = false:=by first | simpa using c3 | (simp at c3 ⊢;omega)
  obtain rfl:=Option.some.inj H
  go_enter Tryz.func89,Tryz.ntmps89
  go_wp2
  go_ret
  exact ⟨Er_,Lb_⟩
 rotate_right
 have c3b0 : ((l0.length : Int) == (l1.length : Int)) = true:=beq_iff_eq.mpr c3
 have c3b1 : ((l0.length : Int) != (l1.length : Int)) = false:=bne_eq_false_iff_eq.mpr c3
 have c3b2 : (l0.length == l1.length) = true:=by first | simpa using c3 | (simp at c3 ⊢;omega)
 clear c3
 have H':=Z_ H
 clear H
 go_enter Tryz.func89,Tryz.ntmps89
 go_wp2
 go_loopg [5] k (fun kq v5 w' => ∃ (x5_1 : Int),v5 = .int .i64 x5_1 ∧ Aside0 (laws_eqTalkS.l0 kq l0 l1 x5_1 = some r) ∧ Aside0 (kq ≤ k) ∧ Aside0 (Below w.heap.size w w'))
 case atStart => exact ⟨(0),Sr_,H',⟨Nat.le_refl _⟩,⟨Lb_⟩⟩
 case round =>
  clear H'
  try clear c1
  try clear p2
  try clear c3
  try clear c3b0
  try clear c3b1
  try clear c3b2
  obtain ⟨x5_1,rfl,HA,HK1,HB⟩:=hrel
  cases gk with
  | zero => exact absurd HA.out (by simp [laws_eqTalkS.l0])
  | succ k1 =>
   have H:=HA.out
   clear HA
   simp only [laws_eqTalkS.l0] at H
   replace H:=iD_ H
   obtain ⟨c4b0,H⟩ | ⟨c4b0,H⟩:=H
   rotate_left
   ·obtain rfl:=Option.some.inj H
    go_wp2
    go_ret
    exact ⟨Er_,Lb_⟩
   rotate_right
   replace H:=iM_ H
   obtain ⟨c5b0,H⟩:=H
   replace H:=iM_ H
   obtain ⟨c6b0,H⟩:=H
   replace H:=bS_ H
   obtain ⟨t430,A7,H⟩:=H
   replace H:=iB_ H
   obtain ⟨rfl,H⟩ | ⟨rfl,H⟩:=H
   rotate_left
   ·obtain rfl:=Option.some.inj H
    try go_wp2
    replace HB:=Z_ (lD_ HB.out)
    have p428 : 0 ≤ (x5_1 : Int):=dA_
    have q428 : x5_1 < (l0.length : Int):=dA_
    obtain ⟨ad428,e428,hL428⟩:=at_L114 a0.out x5_1 p428 q428
    have hW428:=hL428
    cases e428
    replace hL428:=RowAt.below (B:=0) hL428 HB.out
    replace p428:=eq_true p428
    replace q428:=eq_true q428
    have p429 : 0 ≤ (x5_1 : Int):=dA_
    have q429 : x5_1 < (l1.length : Int):=dA_
    obtain ⟨ad429,e429,hL429⟩:=at_L114 a1.out x5_1 p429 q429
    have hW429:=hL429
    cases e429
    replace hL429:=RowAt.below (B:=0) hL429 HB.out
    replace p429:=eq_true p429
    replace q429:=eq_true q429
    refine start_ (n:=10) (S:=fun w' => RowAt w' (ad428.add ((x5_1).toNat * 20)) [.int .i64 ((rd_T114 l0 x5_1).f0),.int .i64 ((rd_T114 l0 x5_1).f1),.int .i64 ((rd_T114 l0 x5_1).f2),.int .i64 ((rd_T114 l0 x5_1).f3),.int .i64 ((rd_T114 l0 x5_1).f4),.int .i64 ((rd_T114 l0 x5_1).f5),.int .i64 ((rd_T114 l0 x5_1).f6),.int .i64 ((rd_T114 l0 x5_1).f7),.int .i64 ((rd_T114 l0 x5_1).f8),.int .i64 ((rd_T114 l0 x5_1).f9),.int .i64 ((rd_T114 l0 x5_1).f10),.int .i64 ((rd_T114 l0 x5_1).f11.f0),.int .i64 ((rd_T114 l0 x5_1).f11.f1),.int .i64 ((rd_T114 l0 x5_1).f11.f2),.int .i64 ((rd_T114 l0 x5_1).f11.f3),.int .i64 ((rd_T114 l0 x5_1).f12),.int .i64 ((rd_T114 l0 x5_1).f13),.int .i64 ((rd_T114 l0 x5_1).f14),.int .i64 ((rd_T114 l0 x5_1).f15.f0),.int .i64 ((rd_T114 l0 x5_1).f15.f1)] ∧ RowAt w' (ad429.add ((x5_1).toNat * 20)) [.int .i64 ((rd_T114 l1 x5_1).f0),.int .i64 ((rd_T114 l1 x5_1).f1),.int .i64 ((rd_T114 l1 x5_1).f2),.int .i64 ((rd_T114 l1 x5_1).f3),.int .i64 ((rd_T114 l1 x5_1).f4),.int .i64 ((rd_T114 l1 x5_1).f5),.int .i64 ((rd_T114 l1 x5_1).f6),.int .i64 ((rd_T114 l1 x5_1).f7),.int .i64 ((rd_T114 l1 x5_1).f8),.int .i64 ((rd_T114 l1 x5_1).f9),.int .i64 ((rd_T114 l1 x5_1).f10),.int .i64 ((rd_T114 l1 x5_1).f11.f0),.int .i64 ((rd_T114 l1 x5_1).f11.f1),.int .i64 ((rd_T114 l1 x5_1).f11.f2),.int .i64 ((rd_T114 l1 x5_1).f11.f3),.int .i64 ((rd_T114 l1 x5_1).f12),.int .i64 ((rd_T114 l1 x5_1).f13),.int .i64 ((rd_T114 l1 x5_1).f14),.int .i64 ((rd_T114 l1 x5_1).f15.f0),.int .i64 ((rd_T114 l1 x5_1).f15.f1)]) (ds:=[]) (Bt 10 0) (by kernel_rfl) rfl rfl ⟨(RowAt.below (B:=0) hW428 HB.out),(RowAt.below (B:=0) hW429 HB.out)⟩ (fun hHeld => ?_);refine with_tabW laws_eqTalkS.tab6 laws_eqTalkS.bits6 (fun HT_ HW_ => ?_)
    generalize wr.drew = w11 at HB hL428 hL429 hHeld ⊢
    refine pu_ 0 (some 17) (Bt 10 1) (any_of HT_.out (by kernel_rfl)) ?_
    refine pu_ 1 (some 18) (Bt 10 3) (any_of HT_.out (by kernel_rfl)) ?_
    refine pu_ 2 (some 19) (Bt 10 7) (any_of HT_.out (by kernel_rfl)) ?_
    refine pu_ 4 (some 21) (Bt 10 23) (any_of HT_.out (by kernel_rfl)) ?_
    refine pu_ 5 (some 22) (Bt 10 55) (any_of HT_.out (by kernel_rfl)) ?_
    refine pu_ 6 (some 23) (Bt 10 119) (any_of HT_.out (by kernel_rfl)) ?_
    refine take_ (i:=3) (N:=some 20) (v:=?_) (a':=?_) (Bt 10 127) rfl rfl (take_ofW HT_.out HW_.out (by kernel_rfl)) (fun _ _ _ h => h) (Or.inl ⟨by rfl,?_⟩) hHeld ?_ ?_
    rotate_left
    ·rintro w' ⟨s0,s1⟩
     first | (refine (exec_loadRow (by rfl) (by rfl) s0 Tryz.underlying114 rfl size114_).trans ?_;with_reducible rfl) | (refine (exec_loadRow (by rfl) (by rfl) s0 Tryz.underlying142 rfl size142_).trans ?_;with_reducible rfl) | (refine (exec_loadRow (by rfl) (by rfl) s1 Tryz.underlying114 rfl size114_).trans ?_;with_reducible rfl) | (refine (exec_loadRow (by rfl) (by rfl) s1 Tryz.underlying142 rfl size142_).trans ?_;with_reducible rfl) | (go_simp;with_reducible rfl)
    rotate_left
    ·simp only [Act.put,lA_,lZ_,lS_,i64_w,i32_w]
     rfl
    refine take_ (i:=7) (N:=some 24) (v:=?_) (a':=?_) (Bt 10 255) rfl rfl (take_ofW HT_.out HW_.out (by kernel_rfl)) (fun _ _ _ h => h) (Or.inl ⟨by rfl,?_⟩) hHeld ?_ ?_
    rotate_left
    ·rintro w' ⟨s0,s1⟩
     first | (refine (exec_loadRow (by rfl) (by rfl) s0 Tryz.underlying114 rfl size114_).trans ?_;with_reducible rfl) | (refine (exec_loadRow (by rfl) (by rfl) s0 Tryz.underlying142 rfl size142_).trans ?_;with_reducible rfl) | (refine (exec_loadRow (by rfl) (by rfl) s1 Tryz.underlying114 rfl size114_).trans ?_;with_reducible rfl) | (refine (exec_loadRow (by rfl) (by rfl) s1 Tryz.underlying142 rfl size142_).trans ?_;with_reducible rfl) | (go_simp;with_reducible rfl)
    rotate_left
    ·simp only [Act.put,lA_,lZ_,lS_,i64_w,i32_w]
     rfl
    refine one_ (i:=8) (N:=some 25) (Bt 10 511) rfl rfl (one_of HT_.out (by kernel_rfl)) (by decide) (fun K hK => ?_)
    refine goes_ Tryz.func105 (by kernel_rfl) rfl #[.agg #[.int .i64 ((rd_T114 l0 x5_1).f0),.int .i64 ((rd_T114 l0 x5_1).f1),.int .i64 ((rd_T114 l0 x5_1).f2),.int .i64 ((rd_T114 l0 x5_1).f3),.int .i64 ((rd_T114 l0 x5_1).f4),.int .i64 ((rd_T114 l0 x5_1).f5),.int .i64 ((rd_T114 l0 x5_1).f6),.int .i64 ((rd_T114 l0 x5_1).f7),.int .i64 ((rd_T114 l0 x5_1).f8),.int .i64 ((rd_T114 l0 x5_1).f9),.int .i64 ((rd_T114 l0 x5_1).f10),.int .i64 ((rd_T114 l0 x5_1).f11.f0),.int .i64 ((rd_T114 l0 x5_1).f11.f1),.int .i64 ((rd_T114 l0 x5_1).f11.f2),.int .i64 ((rd_T114 l0 x5_1).f11.f3),.int .i64 ((rd_T114 l0 x5_1).f12),.int .i64 ((rd_T114 l0 x5_1).f13),.int .i64 ((rd_T114 l0 x5_1).f14),.int .i64 ((rd_T114 l0 x5_1).f15.f0),.int .i64 ((rd_T114 l0 x5_1).f15.f1)],.agg #[.int .i64 ((rd_T114 l1 x5_1).f0),.int .i64 ((rd_T114 l1 x5_1).f1),.int .i64 ((rd_T114 l1 x5_1).f2),.int .i64 ((rd_T114 l1 x5_1).f3),.int .i64 ((rd_T114 l1 x5_1).f4),.int .i64 ((rd_T114 l1 x5_1).f5),.int .i64 ((rd_T114 l1 x5_1).f6),.int .i64 ((rd_T114 l1 x5_1).f7),.int .i64 ((rd_T114 l1 x5_1).f8),.int .i64 ((rd_T114 l1 x5_1).f9),.int .i64 ((rd_T114 l1 x5_1).f10),.int .i64 ((rd_T114 l1 x5_1).f11.f0),.int .i64 ((rd_T114 l1 x5_1).f11.f1),.int .i64 ((rd_T114 l1 x5_1).f11.f2),.int .i64 ((rd_T114 l1 x5_1).f11.f3),.int .i64 ((rd_T114 l1 x5_1).f12),.int .i64 ((rd_T114 l1 x5_1).f13),.int .i64 ((rd_T114 l1 x5_1).f14),.int .i64 ((rd_T114 l1 x5_1).f15.f0),.int .i64 ((rd_T114 l1 x5_1).f15.f1)]] (by rfl) rfl rfl (by (try simp only [List.map_toArray,List.map_cons,List.map_nil]);first | done | rfl | (simp only [List.length_drop,List.length_take];rfl)) ?_
    with_reducible refine (laws_eqTalk.calls ((rd_T114 l0 x5_1).f0) ((rd_T114 l0 x5_1).f1) ((rd_T114 l0 x5_1).f2) ((rd_T114 l0 x5_1).f3) ((rd_T114 l0 x5_1).f4) ((rd_T114 l0 x5_1).f5) ((rd_T114 l0 x5_1).f6) ((rd_T114 l0 x5_1).f7) ((rd_T114 l0 x5_1).f8) ((rd_T114 l0 x5_1).f9) ((rd_T114 l0 x5_1).f10) ((rd_T114 l0 x5_1).f11.f0) ((rd_T114 l0 x5_1).f11.f1) ((rd_T114 l0 x5_1).f11.f2) ((rd_T114 l0 x5_1).f11.f3) ((rd_T114 l0 x5_1).f12) ((rd_T114 l0 x5_1).f13) ((rd_T114 l0 x5_1).f14) ((rd_T114 l0 x5_1).f15.f0) ((rd_T114 l0 x5_1).f15.f1) ((rd_T114 l1 x5_1).f0) ((rd_T114 l1 x5_1).f1) ((rd_T114 l1 x5_1).f2) ((rd_T114 l1 x5_1).f3) ((rd_T114 l1 x5_1).f4) ((rd_T114 l1 x5_1).f5) ((rd_T114 l1 x5_1).f6) ((rd_T114 l1 x5_1).f7) ((rd_T114 l1 x5_1).f8) ((rd_T114 l1 x5_1).f9) ((rd_T114 l1 x5_1).f10) ((rd_T114 l1 x5_1).f11.f0) ((rd_T114 l1 x5_1).f11.f1) ((rd_T114 l1 x5_1).f11.f2) ((rd_T114 l1 x5_1).f11.f3) ((rd_T114 l1 x5_1).f12) ((rd_T114 l1 x5_1).f13) ((rd_T114 l1 x5_1).f14) ((rd_T114 l1 x5_1).f15.f0) ((rd_T114 l1 x5_1).f15.f1) false _ A7.out).mono ?_
    rintro e w12 ⟨rfl,hb⟩
    refine ⟨_,rfl,?_⟩
    replace HB:=Z_ (lP_ Lb_ hb)
    (try clear hb)
    (try clear hb2)
    (try clear hk)
    (try clear hi)
    refine hK.out _ _ ⟨(RowAt.below (B:=0) hW428 HB.out),(RowAt.below (B:=0) hW429 HB.out)⟩ (fun hHeld => ?_)
    clear hK K
    refine norm_ (a':=?_) ?_ ?_
    rotate_left
    ·show Act.put _ (some 25) _ = _
     simp only [Act.put,lA_,lZ_,lS_,i64_w,i32_w]
     rfl
    refine pu_ 9 (some 26) (Bt 10 1023) (any_of HT_.out (by kernel_rfl)) ?_
    refine done_ (done_of HT_.out (by kernel_rfl)) ?_
    try go_wp2
    go_ret
    exact ⟨Er_,Lb_⟩
   rotate_right
   have H':=Z_ H
   clear H
   try go_wp2
   replace HB:=Z_ (lD_ HB.out)
   have p428 : 0 ≤ (x5_1 : Int):=dA_
   have q428 : x5_1 < (l0.length : Int):=dA_
   obtain ⟨ad428,e428,hL428⟩:=at_L114 a0.out x5_1 p428 q428
   have hW428:=hL428
   cases e428
   replace hL428:=RowAt.below (B:=0) hL428 HB.out
   replace p428:=eq_true p428
   replace q428:=eq_true q428
   have p429 : 0 ≤ (x5_1 : Int):=dA_
   have q429 : x5_1 < (l1.length : Int):=dA_
   obtain ⟨ad429,e429,hL429⟩:=at_L114 a1.out x5_1 p429 q429
   have hW429:=hL429
   cases e429
   replace hL429:=RowAt.below (B:=0) hL429 HB.out
   replace p429:=eq_true p429
   replace q429:=eq_true q429
   refine start_ (n:=10) (S:=fun w' => RowAt w' (ad428.add ((x5_1).toNat * 20)) [.int .i64 ((rd_T114 l0 x5_1).f0),.int .i64 ((rd_T114 l0 x5_1).f1),.int .i64 ((rd_T114 l0 x5_1).f2),.int .i64 ((rd_T114 l0 x5_1).f3),.int .i64 ((rd_T114 l0 x5_1).f4),.int .i64 ((rd_T114 l0 x5_1).f5),.int .i64 ((rd_T114 l0 x5_1).f6),.int .i64 ((rd_T114 l0 x5_1).f7),.int .i64 ((rd_T114 l0 x5_1).f8),.int .i64 ((rd_T114 l0 x5_1).f9),.int .i64 ((rd_T114 l0 x5_1).f10),.int .i64 ((rd_T114 l0 x5_1).f11.f0),.int .i64 ((rd_T114 l0 x5_1).f11.f1),.int .i64 ((rd_T114 l0 x5_1).f11.f2),.int .i64 ((rd_T114 l0 x5_1).f11.f3),.int .i64 ((rd_T114 l0 x5_1).f12),.int .i64 ((rd_T114 l0 x5_1).f13),.int .i64 ((rd_T114 l0 x5_1).f14),.int .i64 ((rd_T114 l0 x5_1).f15.f0),.int .i64 ((rd_T114 l0 x5_1).f15.f1)] ∧ RowAt w' (ad429.add ((x5_1).toNat * 20)) [.int .i64 ((rd_T114 l1 x5_1).f0),.int .i64 ((rd_T114 l1 x5_1).f1),.int .i64 ((rd_T114 l1 x5_1).f2),.int .i64 ((rd_T114 l1 x5_1).f3),.int .i64 ((rd_T114 l1 x5_1).f4),.int .i64 ((rd_T114 l1 x5_1).f5),.int .i64 ((rd_T114 l1 x5_1).f6),.int .i64 ((rd_T114 l1 x5_1).f7),.int .i64 ((rd_T114 l1 x5_1).f8),.int .i64 ((rd_T114 l1 x5_1).f9),.int .i64 ((rd_T114 l1 x5_1).f10),.int .i64 ((rd_T114 l1 x5_1).f11.f0),.int .i64 ((rd_T114 l1 x5_1).f11.f1),.int .i64 ((rd_T114 l1 x5_1).f11.f2),.int .i64 ((rd_T114 l1 x5_1).f11.f3),.int .i64 ((rd_T114 l1 x5_1).f12),.int .i64 ((rd_T114 l1 x5_1).f13),.int .i64 ((rd_T114 l1 x5_1).f14),.int .i64 ((rd_T114 l1 x5_1).f15.f0),.int .i64 ((rd_T114 l1 x5_1).f15.f1)]) (ds:=[]) (Bt 10 0) (by kernel_rfl) rfl rfl ⟨(RowAt.below (B:=0) hW428 HB.out),(RowAt.below (B:=0) hW429 HB.out)⟩ (fun hHeld => ?_);refine with_tabW laws_eqTalkS.tab6 laws_eqTalkS.bits6 (fun HT_ HW_ => ?_)
   generalize wr.drew = w9 at HB hL428 hL429 hHeld ⊢
   refine pu_ 0 (some 17) (Bt 10 1) (any_of HT_.out (by kernel_rfl)) ?_
   refine pu_ 1 (some 18) (Bt 10 3) (any_of HT_.out (by kernel_rfl)) ?_
   refine pu_ 2 (some 19) (Bt 10 7) (any_of HT_.out (by kernel_rfl)) ?_
   refine pu_ 4 (some 21) (Bt 10 23) (any_of HT_.out (by kernel_rfl)) ?_
   refine pu_ 5 (some 22) (Bt 10 55) (any_of HT_.out (by kernel_rfl)) ?_
   refine pu_ 6 (some 23) (Bt 10 119) (any_of HT_.out (by kernel_rfl)) ?_
   refine take_ (i:=3) (N:=some 20) (v:=?_) (a':=?_) (Bt 10 127) rfl rfl (take_ofW HT_.out HW_.out (by kernel_rfl)) (fun _ _ _ h => h) (Or.inl ⟨by rfl,?_⟩) hHeld ?_ ?_
   rotate_left
   ·rintro w' ⟨s0,s1⟩
    first | (refine (exec_loadRow (by rfl) (by rfl) s0 Tryz.underlying114 rfl size114_).trans ?_;with_reducible rfl) | (refine (exec_loadRow (by rfl) (by rfl) s0 Tryz.underlying142 rfl size142_).trans ?_;with_reducible rfl) | (refine (exec_loadRow (by rfl) (by rfl) s1 Tryz.underlying114 rfl size114_).trans ?_;with_reducible rfl) | (refine (exec_loadRow (by rfl) (by rfl) s1 Tryz.underlying142 rfl size142_).trans ?_;with_reducible rfl) | (go_simp;with_reducible rfl)
   rotate_left
   ·simp only [Act.put,lA_,lZ_,lS_,i64_w,i32_w]
    rfl
   refine take_ (i:=7) (N:=some 24) (v:=?_) (a':=?_) (Bt 10 255) rfl rfl (take_ofW HT_.out HW_.out (by kernel_rfl)) (fun _ _ _ h => h) (Or.inl ⟨by rfl,?_⟩) hHeld ?_ ?_
   rotate_left
   ·rintro w' ⟨s0,s1⟩
    first | (refine (exec_loadRow (by rfl) (by rfl) s0 Tryz.underlying114 rfl size114_).trans ?_;with_reducible rfl) | (refine (exec_loadRow (by rfl) (by rfl) s0 Tryz.underlying142 rfl size142_).trans ?_;with_reducible rfl) | (refine (exec_loadRow (by rfl) (by rfl) s1 Tryz.underlying114 rfl size114_).trans ?_;with_reducible rfl) | (refine (exec_loadRow (by rfl) (by rfl) s1 Tryz.underlying142 rfl size142_).trans ?_;with_reducible rfl) | (go_simp;with_reducible rfl)
   rotate_left
   ·simp only [Act.put,lA_,lZ_,lS_,i64_w,i32_w]
    rfl
   refine one_ (i:=8) (N:=some 25) (Bt 10 511) rfl rfl (one_of HT_.out (by kernel_rfl)) (by decide) (fun K hK => ?_)
   refine goes_ Tryz.func105 (by kernel_rfl) rfl #[.agg #[.int .i64 ((rd_T114 l0 x5_1).f0),.int .i64 ((rd_T114 l0 x5_1).f1),.int .i64 ((rd_T114 l0 x5_1).f2),.int .i64 ((rd_T114 l0 x5_1).f3),.int .i64 ((rd_T114 l0 x5_1).f4),.int .i64 ((rd_T114 l0 x5_1).f5),.int .i64 ((rd_T114 l0 x5_1).f6),.int .i64 ((rd_T114 l0 x5_1).f7),.int .i64 ((rd_T114 l0 x5_1).f8),.int .i64 ((rd_T114 l0 x5_1).f9),.int .i64 ((rd_T114 l0 x5_1).f10),.int .i64 ((rd_T114 l0 x5_1).f11.f0),.int .i64 ((rd_T114 l0 x5_1).f11.f1),.int .i64 ((rd_T114 l0 x5_1).f11.f2),.int .i64 ((rd_T114 l0 x5_1).f11.f3),.int .i64 ((rd_T114 l0 x5_1).f12),.int .i64 ((rd_T114 l0 x5_1).f13),.int .i64 ((rd_T114 l0 x5_1).f14),.int .i64 ((rd_T114 l0 x5_1).f15.f0),.int .i64 ((rd_T114 l0 x5_1).f15.f1)],.agg #[.int .i64 ((rd_T114 l1 x5_1).f0),.int .i64 ((rd_T114 l1 x5_1).f1),.int .i64 ((rd_T114 l1 x5_1).f2),.int .i64 ((rd_T114 l1 x5_1).f3),.int .i64 ((rd_T114 l1 x5_1).f4),.int .i64 ((rd_T114 l1 x5_1).f5),.int .i64 ((rd_T114 l1 x5_1).f6),.int .i64 ((rd_T114 l1 x5_1).f7),.int .i64 ((rd_T114 l1 x5_1).f8),.int .i64 ((rd_T114 l1 x5_1).f9),.int .i64 ((rd_T114 l1 x5_1).f10),.int .i64 ((rd_T114 l1 x5_1).f11.f0),.int .i64 ((rd_T114 l1 x5_1).f11.f1),.int .i64 ((rd_T114 l1 x5_1).f11.f2),.int .i64 ((rd_T114 l1 x5_1).f11.f3),.int .i64 ((rd_T114 l1 x5_1).f12),.int .i64 ((rd_T114 l1 x5_1).f13),.int .i64 ((rd_T114 l1 x5_1).f14),.int .i64 ((rd_T114 l1 x5_1).f15.f0),.int .i64 ((rd_T114 l1 x5_1).f15.f1)]] (by rfl) rfl rfl (by (try simp only [List.map_toArray,List.map_cons,List.map_nil]);first | done | rfl | (simp only [List.length_drop,List.length_take];rfl)) ?_
   with_reducible refine (laws_eqTalk.calls ((rd_T114 l0 x5_1).f0) ((rd_T114 l0 x5_1).f1) ((rd_T114 l0 x5_1).f2) ((rd_T114 l0 x5_1).f3) ((rd_T114 l0 x5_1).f4) ((rd_T114 l0 x5_1).f5) ((rd_T114 l0 x5_1).f6) ((rd_T114 l0 x5_1).f7) ((rd_T114 l0 x5_1).f8) ((rd_T114 l0 x5_1).f9) ((rd_T114 l0 x5_1).f10) ((rd_T114 l0 x5_1).f11.f0) ((rd_T114 l0 x5_1).f11.f1) ((rd_T114 l0 x5_1).f11.f2) ((rd_T114 l0 x5_1).f11.f3) ((rd_T114 l0 x5_1).f12) ((rd_T114 l0 x5_1).f13) ((rd_T114 l0 x5_1).f14) ((rd_T114 l0 x5_1).f15.f0) ((rd_T114 l0 x5_1).f15.f1) ((rd_T114 l1 x5_1).f0) ((rd_T114 l1 x5_1).f1) ((rd_T114 l1 x5_1).f2) ((rd_T114 l1 x5_1).f3) ((rd_T114 l1 x5_1).f4) ((rd_T114 l1 x5_1).f5) ((rd_T114 l1 x5_1).f6) ((rd_T114 l1 x5_1).f7) ((rd_T114 l1 x5_1).f8) ((rd_T114 l1 x5_1).f9) ((rd_T114 l1 x5_1).f10) ((rd_T114 l1 x5_1).f11.f0) ((rd_T114 l1 x5_1).f11.f1) ((rd_T114 l1 x5_1).f11.f2) ((rd_T114 l1 x5_1).f11.f3) ((rd_T114 l1 x5_1).f12) ((rd_T114 l1 x5_1).f13) ((rd_T114 l1 x5_1).f14) ((rd_T114 l1 x5_1).f15.f0) ((rd_T114 l1 x5_1).f15.f1) true _ A7.out).mono ?_
   rintro e w10 ⟨rfl,hb⟩
   refine ⟨_,rfl,?_⟩
   replace HB:=Z_ (lP_ Lb_ hb)
   (try clear hb)
   (try clear hb2)
   (try clear hk)
   (try clear hi)
   refine hK.out _ _ ⟨(RowAt.below (B:=0) hW428 HB.out),(RowAt.below (B:=0) hW429 HB.out)⟩ (fun hHeld => ?_)
   clear hK K
   refine norm_ (a':=?_) ?_ ?_
   rotate_left
   ·show Act.put _ (some 25) _ = _
    simp only [Act.put,lA_,lZ_,lS_,i64_w,i32_w]
    rfl
   refine pu_ 9 (some 26) (Bt 10 1023) (any_of HT_.out (by kernel_rfl)) ?_
   refine done_ (done_of HT_.out (by kernel_rfl)) ?_
   try go_wp2
   go_roundg k1
   case measure => have:=HK1.out;omega
   case rel => exact ⟨(wrap64 (x5_1 + 1)),Sr_,H',⟨by have:=HK1.out;omega⟩,⟨Lb_⟩⟩
def laws_eqGate.f (k : Nat) (a0_0 a0_1 : Int) (l0_2 : List (S114)) (a1_0 a1_1 : Int) (l1_2 : List (S114)) : Option (Bool):=if a0_0 = a1_0 then (if a0_1 = a1_1 then ((laws_eqTalkS.f k l0_2 l1_2).bind fun t433 => (if t433 = true then (some true) else (some false))) else (some false)) else (some false)
set_option maxHeartbeats 8000000 in
set_option maxRecDepth 100000 in
theorem laws_eqGate.calls (k : Nat) (a0_0 a0_1 : Int) (A0_2 : Option Addr) (c0_2 : Nat) (l0_2 : List (S114)) (a1_0 a1_1 : Int) (A1_2 : Option Addr) (c1_2 : Nat) (l1_2 : List (S114)) (r : Bool) (w : World) (hr0_2 : Kd.C k114 w A0_2 l0_2.length l0_2) (hc0_2 : l0_2.length ≤ c0_2) (hr1_2 : Kd.C k114 w A1_2 l1_2.length l1_2) (hc1_2 : l1_2.length ≤ c1_2) (h : laws_eqGate.f k a0_0 a0_1 l0_2 a1_0 a1_1 l1_2 = some r) :
  Calls Tryz.prog 65 #[.agg #[.int .i64 a0_0,.int .i64 a0_1,.slice A0_2 l0_2.length c0_2],.agg #[.int .i64 a1_0,.int .i64 a1_1,.slice A1_2 l1_2.length c1_2]] w fun e w' => e = .returned (.bool r) ∧ Below w.heap.size w w':=by
 have hu76:=Tryz.underlying76
 have HR0_2:=Z_ hr0_2
 have HC0_2:=Z_ hc0_2
 clear hr0_2 hc0_2
 have HR1_2:=Z_ hr1_2
 have HC1_2:=Z_ hc1_2
 clear hr1_2 hc1_2
 have HB:=Z_ (Below.refl w.heap.size w)
 unfold laws_eqGate.f at h
 have H:=h
 clear h
 replace H:=iE_ H
 obtain ⟨c3b0,c3b1,H⟩ | ⟨c3b0,c3b1,H⟩:=H
 replace H:=iE_ H
 obtain ⟨c4b0,c4b1,H⟩ | ⟨c4b0,c4b1,H⟩:=H
 replace H:=bS_ H
 obtain ⟨t433,A5,H⟩:=H
 replace H:=iB_ H
 obtain ⟨rfl,H⟩ | ⟨rfl,H⟩:=H
 all_goals
  obtain rfl:=Option.some.inj H
  go_enter Tryz.func65,Tryz.ntmps65
  go_wp2_with (first | ((with_reducible refine gD_ 2 rfl ?_);refine bx_ #[.int .i64 a0_0,.int .i64 a0_1,.slice A0_2 l0_2.length c0_2] 76 ?_;intro a3 hg w13 hbox hb;have a0:=Z_ hbox;have a5:=Z_ ((by rw [hg];exact (below_size Lb_) : w.heap.size ≤ a3));replace HB:=Z_ (lP_ Lb_ hb);clear hb hbox hg) | ((with_reducible refine gD_ 3 rfl ?_);refine bx_ #[.int .i64 a1_0,.int .i64 a1_1,.slice A1_2 l1_2.length c1_2] 76 ?_;intro a4 hg w14 hbox hb;have a7:=Z_ hbox;have a6:=Z_ ((by rw [hg];exact (below_size HB.out) : w.heap.size ≤ a4));replace HB:=Z_ (lP_ HB.out hb);have a1:=Z_ ((by rw [hg];exact Nat.ne_of_lt (blk_lt a0.out) : a3 ≠ a4));replace a0:=Z_ (bB_ a0.out hb);have a2:=Z_ a1.out.symm;clear hb hbox hg;have a9:=a1.out;have aa:=a2.out;obtain ⟨_,_,_,_,_,_⟩:=bc3 a0.out;obtain ⟨_,_,_,_,_,_⟩:=bc3 a7.out) | ((with_reducible refine gate_callee (f:=89) rfl ?_);refine goesA_ (some 19) rfl rfl Tryz.func89 (by kernel_rfl) rfl #[.slice A0_2 l0_2.length c0_2,.slice A1_2 l1_2.length c1_2] rfl ?_;(with_reducible refine (laws_eqTalkS.calls k _ _ l0_2 _ _ l1_2 _ _ ?side1 ?side2 ?side3 ?side4 A5.out).mono ?_);(case side1 => exact Cb_ HR0_2);(case side2 => exact HC0_2.out);(case side3 => exact Cb_ HR1_2);(case side4 => exact HC1_2.out);rintro e w12 ⟨rfl,hb⟩;refine ⟨_,rfl,?_⟩;replace HB:=Z_ (lP_ Lb_ hb);(try clear hb)))
  go_ret
  exact ⟨Er_,Lb_⟩
def laws_eqGateS.l0 : Nat → List (S76) → List (S76) → Int → Option (Bool)
 | 0,_,_,_ => none
 | k + 1,x0,x1,x5 => if x5 < (x0.length : Int) then (if 0 ≤ x5 then (if x5 < (x1.length : Int) then ((laws_eqGate.f k ((rd_T76 x0 x5).f0) ((rd_T76 x0 x5).f1) ((rd_T76 x0 x5).f2) ((rd_T76 x1 x5).f0) ((rd_T76 x1 x5).f1) ((rd_T76 x1 x5).f2)).bind fun t436 => (if t436 = true then (laws_eqGateS.l0 k x0 x1 (wrap64 (x5 + 1))) else (some false))) else (none)) else (none)) else (some true)
def laws_eqGateS.f (k : Nat) (l0 l1 : List (S76)) : Option (Bool):=if (l0.length : Int) = (l1.length : Int) then (laws_eqGateS.l0 k l0 l1 0) else (some false)
def laws_eqGateS.T6 : Bool × List (List Nat × List Nat):=(true,[([],[]),([],[]),([0,1],[0,1]),([2],[2]),([],[]),([],[]),([4,5],[4,5]),([6],[6]),([3,7],[3,7]),([8],[8])])
def laws_eqGateS.B6 : List Nat:=[0,0,3,7,0,0,48,112,255,511]
theorem laws_eqGateS.tab6 : rtab .any (opsOf Tryz.f31 6) = laws_eqGateS.T6:=by kernel_rfl
theorem laws_eqGateS.bits6 : waitsOk laws_eqGateS.T6.2 laws_eqGateS.B6 = true:=by kernel_rfl
set_option maxHeartbeats 8000000 in
set_option maxRecDepth 100000 in
theorem laws_eqGateS.calls (k : Nat) (A0 : Option Addr) (c0 : Nat) (l0 : List (S76)) (A1 : Option Addr) (c1 : Nat) (l1 : List (S76)) (r : Bool) (w : World) (hr0 : Kd.C k76 w A0 l0.length l0) (hc0 : l0.length ≤ c0) (hr1 : Kd.C k76 w A1 l1.length l1) (hc1 : l1.length ≤ c1) (h : laws_eqGateS.f k l0 l1 = some r) :
  Calls Tryz.prog 31 #[.slice A0 l0.length c0,.slice A1 l1.length c1] w fun e w' => e = .returned (.bool r) ∧ Below w.heap.size w w':=by
 have hu76:=Tryz.underlying76
 have a0:=Z_ hr0
 have a3:=Z_ hc0
 clear hr0 hc0
 have a1:=Z_ hr1
 have a4:=Z_ hc1
 clear hr1 hc1
 have HB:=Z_ (Below.refl w.heap.size w)
 unfold laws_eqGateS.f at h
 have H:=h
 clear h
 replace H:=iC_ H
 obtain ⟨c3,H⟩ | ⟨c3,H⟩:=H
 rotate_left
 ·have c3b0 : ((l0.length : Int) == (l1.length : Int)) = false:=beq_eq_false_iff_ne.mpr c3
  have c3b1 : ((l0.length : Int) != (l1.length : Int)) = true:=bne_iff_ne.mpr c3
  have c3b2 : (l0.length == l1.length) = false:=by first | simpa using c3 | (simp at c3 ⊢;omega)
  obtain rfl:=Option.some.inj H
  go_enter Tryz.func31,Tryz.ntmps31
  go_wp2
  go_ret
  exact ⟨Er_,Lb_⟩
 rotate_right
 have c3b0 : ((l0.length : Int) == (l1.length : Int)) = true:=beq_iff_eq.mpr c3
 have c3b1 : ((l0.length : Int) != (l1.length : Int)) = false:=bne_eq_false_iff_eq.mpr c3
 have c3b2 : (l0.length == l1.length) = true:=by first | simpa using c3 | (simp at c3 ⊢;omega)
 clear c3
 have H':=Z_ H
 clear H
 go_enter Tryz.func31,Tryz.ntmps31
 go_wp2
 go_loopg [5] k (fun kq v5 w' => ∃ (x5_1 : Int),v5 = .int .i64 x5_1 ∧ Aside0 (laws_eqGateS.l0 kq l0 l1 x5_1 = some r) ∧ Aside0 (kq ≤ k) ∧ Aside0 (Below w.heap.size w w'))
 case atStart => exact ⟨(0),Sr_,H',⟨Nat.le_refl _⟩,⟨Lb_⟩⟩
 case round =>
  clear H'
  try clear c1
  try clear p2
  try clear c3
  try clear c3b0
  try clear c3b1
  try clear c3b2
  obtain ⟨x5_1,rfl,HA,HK1,HB⟩:=hrel
  cases gk with
  | zero => exact absurd HA.out (by simp [laws_eqGateS.l0])
  | succ k1 =>
   have H:=HA.out
   clear HA
   simp only [laws_eqGateS.l0] at H
   replace H:=iD_ H
   obtain ⟨c4b0,H⟩ | ⟨c4b0,H⟩:=H
   rotate_left
   ·obtain rfl:=Option.some.inj H
    go_wp2
    go_ret
    exact ⟨Er_,Lb_⟩
   rotate_right
   replace H:=iM_ H
   obtain ⟨c5b0,H⟩:=H
   replace H:=iM_ H
   obtain ⟨c6b0,H⟩:=H
   replace H:=bS_ H
   obtain ⟨t436,A7,H⟩:=H
   replace H:=iB_ H
   obtain ⟨rfl,H⟩ | ⟨rfl,H⟩:=H
   rotate_left
   ·obtain rfl:=Option.some.inj H
    try go_wp2
    replace HB:=Z_ (lD_ HB.out)
    have p434 : 0 ≤ (x5_1 : Int):=dA_
    have q434 : x5_1 < (l0.length : Int):=dA_
    obtain ⟨ad434,A434_2,c434_2,e434,hx434_0,hx434_1,hx434_2,hl434_2,hi434_2⟩:=at_T76 a0.out x5_1 p434 q434
    have hw434_2:=hx434_2
    have hw434_1:=hx434_1
    have hw434_0:=hx434_0
    cases e434
    replace hx434_0:=cB_ HB hx434_0
    replace hx434_1:=cB_ HB hx434_1
    replace hx434_2:=cB_ HB hx434_2
    have HR434_2:=Z_ hi434_2
    have HC434_2:=Z_ hl434_2
    clear hi434_2 hl434_2
    replace p434:=eq_true p434
    replace q434:=eq_true q434
    have p435 : 0 ≤ (x5_1 : Int):=dA_
    have q435 : x5_1 < (l1.length : Int):=dA_
    obtain ⟨ad435,A435_2,c435_2,e435,hx435_0,hx435_1,hx435_2,hl435_2,hi435_2⟩:=at_T76 a1.out x5_1 p435 q435
    have hw435_2:=hx435_2
    have hw435_1:=hx435_1
    have hw435_0:=hx435_0
    cases e435
    replace hx435_0:=cB_ HB hx435_0
    replace hx435_1:=cB_ HB hx435_1
    replace hx435_2:=cB_ HB hx435_2
    have HR435_2:=Z_ hi435_2
    have HC435_2:=Z_ hl435_2
    clear hi435_2 hl435_2
    replace p435:=eq_true p435
    replace q435:=eq_true q435
    refine start_ (n:=10) (S:=fun w' => w'.cell? (ad434.add ((x5_1).toNat * 3)) = some (.int .i64 ((rd_T76 l0 x5_1).f0)) ∧ w'.cell? ⟨(ad434.add ((x5_1).toNat * 3)).block,(ad434.add ((x5_1).toNat * 3)).off + 1,none⟩ = some (.int .i64 ((rd_T76 l0 x5_1).f1)) ∧ w'.cell? ⟨(ad434.add ((x5_1).toNat * 3)).block,(ad434.add ((x5_1).toNat * 3)).off + 2,none⟩ = some (.slice A434_2 ((rd_T76 l0 x5_1).f2).length c434_2) ∧ w'.cell? (ad435.add ((x5_1).toNat * 3)) = some (.int .i64 ((rd_T76 l1 x5_1).f0)) ∧ w'.cell? ⟨(ad435.add ((x5_1).toNat * 3)).block,(ad435.add ((x5_1).toNat * 3)).off + 1,none⟩ = some (.int .i64 ((rd_T76 l1 x5_1).f1)) ∧ w'.cell? ⟨(ad435.add ((x5_1).toNat * 3)).block,(ad435.add ((x5_1).toNat * 3)).off + 2,none⟩ = some (.slice A435_2 ((rd_T76 l1 x5_1).f2).length c435_2)) (ds:=[]) (Bt 10 0) (by kernel_rfl) rfl rfl ⟨(cB_ HB hw434_0),(cB_ HB hw434_1),(cB_ HB hw434_2),(cB_ HB hw435_0),(cB_ HB hw435_1),(cB_ HB hw435_2)⟩ (fun hHeld => ?_);refine with_tabW laws_eqGateS.tab6 laws_eqGateS.bits6 (fun HT_ HW_ => ?_)
    generalize wr.drew = w11 at HB HR434_2 HR435_2 hx434_0 hx434_1 hx434_2 hx435_0 hx435_1 hx435_2 hHeld ⊢
    refine pu_ 0 (some 17) (Bt 10 1) (any_of HT_.out (by kernel_rfl)) ?_
    refine pu_ 1 (some 18) (Bt 10 3) (any_of HT_.out (by kernel_rfl)) ?_
    refine pu_ 2 (some 19) (Bt 10 7) (any_of HT_.out (by kernel_rfl)) ?_
    refine pu_ 4 (some 21) (Bt 10 23) (any_of HT_.out (by kernel_rfl)) ?_
    refine pu_ 5 (some 22) (Bt 10 55) (any_of HT_.out (by kernel_rfl)) ?_
    refine pu_ 6 (some 23) (Bt 10 119) (any_of HT_.out (by kernel_rfl)) ?_
    refine ta_ 3 (some 20) (Bt 10 127) (take_ofW HT_.out HW_.out (by kernel_rfl)) hHeld ?_
    refine ta_ 7 (some 24) (Bt 10 255) (take_ofW HT_.out HW_.out (by kernel_rfl)) hHeld ?_
    refine one_ (i:=8) (N:=some 25) (Bt 10 511) rfl rfl (one_of HT_.out (by kernel_rfl)) (by decide) (fun K hK => ?_)
    refine goes_ Tryz.func65 (by kernel_rfl) rfl #[.agg #[.int .i64 ((rd_T76 l0 x5_1).f0),.int .i64 ((rd_T76 l0 x5_1).f1),.slice A434_2 ((rd_T76 l0 x5_1).f2).length c434_2],.agg #[.int .i64 ((rd_T76 l1 x5_1).f0),.int .i64 ((rd_T76 l1 x5_1).f1),.slice A435_2 ((rd_T76 l1 x5_1).f2).length c435_2]] (by rfl) rfl rfl (by (try simp only [List.map_toArray,List.map_cons,List.map_nil]);first | done | rfl | (simp only [List.length_drop,List.length_take];rfl)) ?_
    with_reducible refine (laws_eqGate.calls k1 ((rd_T76 l0 x5_1).f0) ((rd_T76 l0 x5_1).f1) _ _ ((rd_T76 l0 x5_1).f2) ((rd_T76 l1 x5_1).f0) ((rd_T76 l1 x5_1).f1) _ _ ((rd_T76 l1 x5_1).f2) false _ ?side1 ?side2 ?side3 ?side4 A7.out).mono ?_
    (case side1 => exact Cb_ HR434_2)
    (case side2 => exact HC434_2.out)
    (case side3 => exact Cb_ HR435_2)
    (case side4 => exact HC435_2.out)
    rintro e w12 ⟨rfl,hb⟩
    refine ⟨_,rfl,?_⟩
    replace HB:=Z_ (lP_ Lb_ hb)
    (try clear hb)
    (try clear hb2)
    (try clear hk)
    (try clear hi)
    refine hK.out _ _ ⟨(cB_ HB hw434_0),(cB_ HB hw434_1),(cB_ HB hw434_2),(cB_ HB hw435_0),(cB_ HB hw435_1),(cB_ HB hw435_2)⟩ (fun hHeld => ?_)
    clear hK K
    refine norm_ (a':=?_) ?_ ?_
    rotate_left
    ·show Act.put _ (some 25) _ = _
     simp only [Act.put,lA_,lZ_,lS_,i64_w,i32_w]
     rfl
    refine pu_ 9 (some 26) (Bt 10 1023) (any_of HT_.out (by kernel_rfl)) ?_
    refine done_ (done_of HT_.out (by kernel_rfl)) ?_
    try go_wp2
    go_ret
    exact ⟨Er_,Lb_⟩
   rotate_right
   have H':=Z_ H
   clear H
   try go_wp2
   replace HB:=Z_ (lD_ HB.out)
   have p434 : 0 ≤ (x5_1 : Int):=dA_
   have q434 : x5_1 < (l0.length : Int):=dA_
   obtain ⟨ad434,A434_2,c434_2,e434,hx434_0,hx434_1,hx434_2,hl434_2,hi434_2⟩:=at_T76 a0.out x5_1 p434 q434
   have hw434_2:=hx434_2
   have hw434_1:=hx434_1
   have hw434_0:=hx434_0
   cases e434
   replace hx434_0:=cB_ HB hx434_0
   replace hx434_1:=cB_ HB hx434_1
   replace hx434_2:=cB_ HB hx434_2
   have HR434_2:=Z_ hi434_2
   have HC434_2:=Z_ hl434_2
   clear hi434_2 hl434_2
   replace p434:=eq_true p434
   replace q434:=eq_true q434
   have p435 : 0 ≤ (x5_1 : Int):=dA_
   have q435 : x5_1 < (l1.length : Int):=dA_
   obtain ⟨ad435,A435_2,c435_2,e435,hx435_0,hx435_1,hx435_2,hl435_2,hi435_2⟩:=at_T76 a1.out x5_1 p435 q435
   have hw435_2:=hx435_2
   have hw435_1:=hx435_1
   have hw435_0:=hx435_0
   cases e435
   replace hx435_0:=cB_ HB hx435_0
   replace hx435_1:=cB_ HB hx435_1
   replace hx435_2:=cB_ HB hx435_2
   have HR435_2:=Z_ hi435_2
   have HC435_2:=Z_ hl435_2
   clear hi435_2 hl435_2
   replace p435:=eq_true p435
   replace q435:=eq_true q435
   refine start_ (n:=10) (S:=fun w' => w'.cell? (ad434.add ((x5_1).toNat * 3)) = some (.int .i64 ((rd_T76 l0 x5_1).f0)) ∧ w'.cell? ⟨(ad434.add ((x5_1).toNat * 3)).block,(ad434.add ((x5_1).toNat * 3)).off + 1,none⟩ = some (.int .i64 ((rd_T76 l0 x5_1).f1)) ∧ w'.cell? ⟨(ad434.add ((x5_1).toNat * 3)).block,(ad434.add ((x5_1).toNat * 3)).off + 2,none⟩ = some (.slice A434_2 ((rd_T76 l0 x5_1).f2).length c434_2) ∧ w'.cell? (ad435.add ((x5_1).toNat * 3)) = some (.int .i64 ((rd_T76 l1 x5_1).f0)) ∧ w'.cell? ⟨(ad435.add ((x5_1).toNat * 3)).block,(ad435.add ((x5_1).toNat * 3)).off + 1,none⟩ = some (.int .i64 ((rd_T76 l1 x5_1).f1)) ∧ w'.cell? ⟨(ad435.add ((x5_1).toNat * 3)).block,(ad435.add ((x5_1).toNat * 3)).off + 2,none⟩ = some (.slice A435_2 ((rd_T76 l1 x5_1).f2).length c435_2)) (ds:=[]) (Bt 10 0) (by kernel_rfl) rfl rfl ⟨(cB_ HB hw434_0),(cB_ HB hw434_1),(cB_ HB hw434_2),(cB_ HB hw435_0),(cB_ HB hw435_1),(cB_ HB hw435_2)⟩ (fun hHeld => ?_);refine with_tabW laws_eqGateS.tab6 laws_eqGateS.bits6 (fun HT_ HW_ => ?_)
   generalize wr.drew = w9 at HB HR434_2 HR435_2 hx434_0 hx434_1 hx434_2 hx435_0 hx435_1 hx435_2 hHeld ⊢
   refine pu_ 0 (some 17) (Bt 10 1) (any_of HT_.out (by kernel_rfl)) ?_
   refine pu_ 1 (some 18) (Bt 10 3) (any_of HT_.out (by kernel_rfl)) ?_
   refine pu_ 2 (some 19) (Bt 10 7) (any_of HT_.out (by kernel_rfl)) ?_
   refine pu_ 4 (some 21) (Bt 10 23) (any_of HT_.out (by kernel_rfl)) ?_
   refine pu_ 5 (some 22) (Bt 10 55) (any_of HT_.out (by kernel_rfl)) ?_
   refine pu_ 6 (some 23) (Bt 10 119) (any_of HT_.out (by kernel_rfl)) ?_
   refine ta_ 3 (some 20) (Bt 10 127) (take_ofW HT_.out HW_.out (by kernel_rfl)) hHeld ?_
   refine ta_ 7 (some 24) (Bt 10 255) (take_ofW HT_.out HW_.out (by kernel_rfl)) hHeld ?_
   refine one_ (i:=8) (N:=some 25) (Bt 10 511) rfl rfl (one_of HT_.out (by kernel_rfl)) (by decide) (fun K hK => ?_)
   refine goes_ Tryz.func65 (by kernel_rfl) rfl #[.agg #[.int .i64 ((rd_T76 l0 x5_1).f0),.int .i64 ((rd_T76 l0 x5_1).f1),.slice A434_2 ((rd_T76 l0 x5_1).f2).length c434_2],.agg #[.int .i64 ((rd_T76 l1 x5_1).f0),.int .i64 ((rd_T76 l1 x5_1).f1),.slice A435_2 ((rd_T76 l1 x5_1).f2).length c435_2]] (by rfl) rfl rfl (by (try simp only [List.map_toArray,List.map_cons,List.map_nil]);first | done | rfl | (simp only [List.length_drop,List.length_take];rfl)) ?_
   with_reducible refine (laws_eqGate.calls k1 ((rd_T76 l0 x5_1).f0) ((rd_T76 l0 x5_1).f1) _ _ ((rd_T76 l0 x5_1).f2) ((rd_T76 l1 x5_1).f0) ((rd_T76 l1 x5_1).f1) _ _ ((rd_T76 l1 x5_1).f2) true _ ?side1 ?side2 ?side3 ?side4 A7.out).mono ?_
   (case side1 => exact Cb_ HR434_2)
   (case side2 => exact HC434_2.out)
   (case side3 => exact Cb_ HR435_2)
   (case side4 => exact HC435_2.out)
   rintro e w10 ⟨rfl,hb⟩
   refine ⟨_,rfl,?_⟩
   replace HB:=Z_ (lP_ Lb_ hb)
   (try clear hb)
   (try clear hb2)
   (try clear hk)
   (try clear hi)
   refine hK.out _ _ ⟨(cB_ HB hw434_0),(cB_ HB hw434_1),(cB_ HB hw434_2),(cB_ HB hw435_0),(cB_ HB hw435_1),(cB_ HB hw435_2)⟩ (fun hHeld => ?_)
   clear hK K
   refine norm_ (a':=?_) ?_ ?_
   rotate_left
   ·show Act.put _ (some 25) _ = _
    simp only [Act.put,lA_,lZ_,lS_,i64_w,i32_w]
    rfl
   refine pu_ 9 (some 26) (Bt 10 1023) (any_of HT_.out (by kernel_rfl)) ?_
   refine done_ (done_of HT_.out (by kernel_rfl)) ?_
   try go_wp2
   go_roundg k1
   case measure => have:=HK1.out;omega
   case rel => exact ⟨(wrap64 (x5_1 + 1)),Sr_,H',⟨by have:=HK1.out;omega⟩,⟨Lb_⟩⟩
def laws_eqInt64S.l0 : Nat → List Int → List Int → Int → Option (Bool)
 | 0,_,_,_ => none
 | k + 1,x0,x1,x5 => if x5 < (x0.length : Int) then (if 0 ≤ x5 then (if x5 < (x1.length : Int) then (if (rd x0 x5) = (rd x1 x5) then (laws_eqInt64S.l0 k x0 x1 (wrap64 (x5 + 1))) else (some false)) else (none)) else (none)) else (some true)
def laws_eqInt64S.f (k : Nat) (l0 l1 : List Int) : Option (Bool):=if (l0.length : Int) = (l1.length : Int) then (laws_eqInt64S.l0 k l0 l1 0) else (some false)
set_option maxHeartbeats 8000000 in
set_option maxRecDepth 100000 in
theorem laws_eqInt64S.calls (k : Nat) (A0 : Option Addr) (c0 : Nat) (l0 : List Int) (A1 : Option Addr) (c1 : Nat) (l1 : List Int) (r : Bool) (w : World) (hr0 : Kd.C (Kd.int .i64) w A0 l0.length l0) (hc0 : l0.length ≤ c0) (hr1 : Kd.C (Kd.int .i64) w A1 l1.length l1) (hc1 : l1.length ≤ c1) (h : laws_eqInt64S.f k l0 l1 = some r) :
  Calls Tryz.prog 32 #[.slice A0 l0.length c0,.slice A1 l1.length c1] w fun e w' => e = .returned (.bool r) ∧ Drawn0 w w':=by
 have a0:=Z_ hr0
 have a2:=Z_ hc0
 clear hr0 hc0
 have a1:=Z_ hr1
 have a3:=Z_ hc1
 clear hr1 hc1
 unfold laws_eqInt64S.f at h
 have H:=h
 clear h
 replace H:=iC_ H
 obtain ⟨c3,H⟩ | ⟨c3,H⟩:=H
 rotate_left
 ·have c3b0 : ((l0.length : Int) == (l1.length : Int)) = false:=beq_eq_false_iff_ne.mpr c3
  have c3b1 : ((l0.length : Int) != (l1.length : Int)) = true:=bne_iff_ne.mpr c3
  have c3b2 : (l0.length == l1.length) = false:=by first | simpa using c3 | (simp at c3 ⊢;omega)
  obtain rfl:=Option.some.inj H
  go_enter Tryz.func32,Tryz.ntmps32
  go_wp2
  repeat (go_quiet (fail);try go_wp2)
  go_ret
  exact ⟨by first | rfl | (simp;done) | (simp [*];done),by repeat (first | exact Drawn0.refl _ | apply Drawn0.step)⟩
 rotate_right
 have c3b0 : ((l0.length : Int) == (l1.length : Int)) = true:=beq_iff_eq.mpr c3
 have c3b1 : ((l0.length : Int) != (l1.length : Int)) = false:=bne_eq_false_iff_eq.mpr c3
 have c3b2 : (l0.length == l1.length) = true:=by first | simpa using c3 | (simp at c3 ⊢;omega)
 clear c3
 have H':=Z_ H
 clear H
 go_enter Tryz.func32,Tryz.ntmps32
 go_wp2
 repeat (go_quiet (fail);try go_wp2)
 go_loopg [5] k (fun kq v5 w' => ∃ (x5_1 : Int),v5 = .int .i64 x5_1 ∧ Aside0 (laws_eqInt64S.l0 kq l0 l1 x5_1 = some r) ∧ Aside0 (kq ≤ k) ∧ Drawn0 w w')
 case atStart => exact ⟨(0),Sr_,H',⟨Nat.le_refl _⟩,by repeat (first | exact Drawn0.refl _ | apply Drawn0.step)⟩
 case round =>
  clear H'
  try clear c1
  try clear p2
  try clear c3
  try clear c3b0
  try clear c3b1
  try clear c3b2
  obtain ⟨x5_1,rfl,HA,HK1,⟨m1,rfl⟩⟩:=hrel
  cases gk with
  | zero => exact absurd HA.out (by simp [laws_eqInt64S.l0])
  | succ k1 =>
   have H:=HA.out
   clear HA
   simp only [laws_eqInt64S.l0] at H
   replace H:=iD_ H
   obtain ⟨c4b0,H⟩ | ⟨c4b0,H⟩:=H
   rotate_left
   ·obtain rfl:=Option.some.inj H
    go_wp2
    repeat (go_quiet (fail);try go_wp2)
    go_ret
    exact ⟨by first | rfl | (simp;done) | (simp [*];done),by repeat (first | exact Drawn0.refl _ | apply Drawn0.step)⟩
   rotate_right
   replace H:=iM_ H
   obtain ⟨c5b0,H⟩:=H
   replace H:=iM_ H
   obtain ⟨c6b0,H⟩:=H
   replace H:=iE_ H
   obtain ⟨c7b0,c7b1,H⟩ | ⟨c7b0,c7b1,H⟩:=H
   rotate_left
   ·obtain rfl:=Option.some.inj H
    have p437 : 0 ≤ (x5_1 : Int):=dA_
    have q437 : x5_1 < (l0.length : Int):=dA_
    obtain ⟨ad437,e437,hx437_0⟩:=Kd.at_int a0.out x5_1 p437 q437
    cases e437
    replace p437:=eq_true p437
    replace q437:=eq_true q437
    have p438 : 0 ≤ (x5_1 : Int):=dA_
    have q438 : x5_1 < (l1.length : Int):=dA_
    obtain ⟨ad438,e438,hx438_0⟩:=Kd.at_int a1.out x5_1 p438 q438
    cases e438
    replace p438:=eq_true p438
    replace q438:=eq_true q438
    go_wp2
    repeat (go_quiet (fail);try go_wp2)
    go_ret
    exact ⟨by first | rfl | (simp;done) | (simp [*];done),by repeat (first | exact Drawn0.refl _ | apply Drawn0.step)⟩
   rotate_right
   have H':=Z_ H
   clear H
   have p437 : 0 ≤ (x5_1 : Int):=dA_
   have q437 : x5_1 < (l0.length : Int):=dA_
   obtain ⟨ad437,e437,hx437_0⟩:=Kd.at_int a0.out x5_1 p437 q437
   cases e437
   replace p437:=eq_true p437
   replace q437:=eq_true q437
   have p438 : 0 ≤ (x5_1 : Int):=dA_
   have q438 : x5_1 < (l1.length : Int):=dA_
   obtain ⟨ad438,e438,hx438_0⟩:=Kd.at_int a1.out x5_1 p438 q438
   cases e438
   replace p438:=eq_true p438
   replace q438:=eq_true q438
   go_wp2
   repeat (go_quiet (fail);try go_wp2)
   go_roundg k1
   case measure => have:=HK1.out;omega
   case rel => exact ⟨(wrap64 (x5_1 + 1)),Sr_,H',⟨by have:=HK1.out;omega⟩,by repeat (first | exact Drawn0.refl _ | apply Drawn0.step)⟩
def laws_eqGiven.f (a0_0 a0_1 a0_2 a0_3 a1_0 a1_1 a1_2 a1_3 : Int) : Option (Bool):=if a0_0 = a1_0 then (if a0_1 = a1_1 then (if a0_2 = a1_2 then (if a0_3 = a1_3 then (some true) else (some false)) else (some false)) else (some false)) else (some false)
set_option maxHeartbeats 8000000 in
set_option maxRecDepth 100000 in
theorem laws_eqGiven.calls (a0_0 a0_1 a0_2 a0_3 a1_0 a1_1 a1_2 a1_3 : Int) (r : Bool) (w : World) (h : laws_eqGiven.f a0_0 a0_1 a0_2 a0_3 a1_0 a1_1 a1_2 a1_3 = some r) :
  Calls Tryz.prog 66 #[.agg #[.int .i64 a0_0,.int .i64 a0_1,.int .i64 a0_2,.int .i64 a0_3],.agg #[.int .i64 a1_0,.int .i64 a1_1,.int .i64 a1_2,.int .i64 a1_3]] w fun e w' => e = .returned (.bool r) ∧ Below w.heap.size w w':=by
 have hu88:=Tryz.underlying88
 have HB:=Z_ (Below.refl w.heap.size w)
 unfold laws_eqGiven.f at h
 have H:=h
 clear h
 replace H:=iE_ H
 obtain ⟨c3b0,c3b1,H⟩ | ⟨c3b0,c3b1,H⟩:=H
 replace H:=iE_ H
 obtain ⟨c4b0,c4b1,H⟩ | ⟨c4b0,c4b1,H⟩:=H
 replace H:=iE_ H
 obtain ⟨c5b0,c5b1,H⟩ | ⟨c5b0,c5b1,H⟩:=H
 replace H:=iE_ H
 obtain ⟨c6b0,c6b1,H⟩ | ⟨c6b0,c6b1,H⟩:=H
 all_goals
  obtain rfl:=Option.some.inj H
  go_enter Tryz.func66,Tryz.ntmps66
  go_wp2_with (first | ((with_reducible refine gD_ 2 rfl ?_);refine bx_ #[.int .i64 a0_0,.int .i64 a0_1,.int .i64 a0_2,.int .i64 a0_3] 88 ?_;intro a3 hg w12 hbox hb;have a0:=Z_ hbox;have a5:=Z_ ((by rw [hg];exact (below_size Lb_) : w.heap.size ≤ a3));replace HB:=Z_ (lP_ Lb_ hb);clear hb hbox hg) | ((with_reducible refine gD_ 3 rfl ?_);refine bx_ #[.int .i64 a1_0,.int .i64 a1_1,.int .i64 a1_2,.int .i64 a1_3] 88 ?_;intro a4 hg w13 hbox hb;have a6:=Z_ hbox;have a7:=Z_ ((by rw [hg];exact (below_size HB.out) : w.heap.size ≤ a4));replace HB:=Z_ (lP_ HB.out hb);have a1:=Z_ ((by rw [hg];exact Nat.ne_of_lt (blk_lt a0.out) : a3 ≠ a4));replace a0:=Z_ (bB_ a0.out hb);have a2:=Z_ a1.out.symm;clear hb hbox hg;have a8:=a1.out;have a9:=a2.out;obtain ⟨_,_,_,_,_,_,_,_⟩:=bc4 a0.out;obtain ⟨_,_,_,_,_,_,_,_⟩:=bc4 a6.out))
  go_ret
  exact ⟨Er_,Lb_⟩
def laws_eqGivenS.l0 : Nat → List (S88) → List (S88) → Int → Option (Bool)
 | 0,_,_,_ => none
 | k + 1,x0,x1,x5 => if x5 < (x0.length : Int) then (if 0 ≤ x5 then (if x5 < (x1.length : Int) then ((laws_eqGiven.f ((rd_T88 x0 x5).f0) ((rd_T88 x0 x5).f1) ((rd_T88 x0 x5).f2) ((rd_T88 x0 x5).f3) ((rd_T88 x1 x5).f0) ((rd_T88 x1 x5).f1) ((rd_T88 x1 x5).f2) ((rd_T88 x1 x5).f3)).bind fun t443 => (if t443 = true then (laws_eqGivenS.l0 k x0 x1 (wrap64 (x5 + 1))) else (some false))) else (none)) else (none)) else (some true)
def laws_eqGivenS.f (k : Nat) (l0 l1 : List (S88)) : Option (Bool):=if (l0.length : Int) = (l1.length : Int) then (laws_eqGivenS.l0 k l0 l1 0) else (some false)
def laws_eqGivenS.T6 : Bool × List (List Nat × List Nat):=(true,[([],[]),([],[]),([0,1],[0,1]),([2],[2]),([],[]),([],[]),([4,5],[4,5]),([6],[6]),([3,7],[3,7]),([8],[8])])
def laws_eqGivenS.B6 : List Nat:=[0,0,3,7,0,0,48,112,255,511]
theorem laws_eqGivenS.tab6 : rtab .any (opsOf Tryz.f33 6) = laws_eqGivenS.T6:=by kernel_rfl
theorem laws_eqGivenS.bits6 : waitsOk laws_eqGivenS.T6.2 laws_eqGivenS.B6 = true:=by kernel_rfl
set_option maxHeartbeats 8000000 in
set_option maxRecDepth 100000 in
theorem laws_eqGivenS.calls (k : Nat) (A0 : Option Addr) (c0 : Nat) (l0 : List (S88)) (A1 : Option Addr) (c1 : Nat) (l1 : List (S88)) (r : Bool) (w : World) (hr0 : Kd.C k88 w A0 l0.length l0) (hc0 : l0.length ≤ c0) (hr1 : Kd.C k88 w A1 l1.length l1) (hc1 : l1.length ≤ c1) (h : laws_eqGivenS.f k l0 l1 = some r) :
  Calls Tryz.prog 33 #[.slice A0 l0.length c0,.slice A1 l1.length c1] w fun e w' => e = .returned (.bool r) ∧ Below w.heap.size w w':=by
 have hu88:=Tryz.underlying88
 have a0:=Z_ hr0
 have a3:=Z_ hc0
 clear hr0 hc0
 have a1:=Z_ hr1
 have a4:=Z_ hc1
 clear hr1 hc1
 have HB:=Z_ (Below.refl w.heap.size w)
 unfold laws_eqGivenS.f at h
 have H:=h
 clear h
 replace H:=iC_ H
 obtain ⟨c3,H⟩ | ⟨c3,H⟩:=H
 rotate_left
 ·have c3b0 : ((l0.length : Int) == (l1.length : Int)) = false:=beq_eq_false_iff_ne.mpr c3
  have c3b1 : ((l0.length : Int) != (l1.length : Int)) = true:=bne_iff_ne.mpr c3
  have c3b2 : (l0.length == l1.length) = false:=by first | simpa using c3 | (simp at c3 ⊢;omega)
  obtain rfl:=Option.some.inj H
  go_enter Tryz.func33,Tryz.ntmps33
  go_wp2
  go_ret
  exact ⟨Er_,Lb_⟩
 rotate_right
 have c3b0 : ((l0.length : Int) == (l1.length : Int)) = true:=beq_iff_eq.mpr c3
 have c3b1 : ((l0.length : Int) != (l1.length : Int)) = false:=bne_eq_false_iff_eq.mpr c3
 have c3b2 : (l0.length == l1.length) = true:=by first | simpa using c3 | (simp at c3 ⊢;omega)
 clear c3
 have H':=Z_ H
 clear H
 go_enter Tryz.func33,Tryz.ntmps33
 go_wp2
 go_loopg [5] k (fun kq v5 w' => ∃ (x5_1 : Int),v5 = .int .i64 x5_1 ∧ Aside0 (laws_eqGivenS.l0 kq l0 l1 x5_1 = some r) ∧ Aside0 (kq ≤ k) ∧ Aside0 (Below w.heap.size w w'))
 case atStart => exact ⟨(0),Sr_,H',⟨Nat.le_refl _⟩,⟨Lb_⟩⟩
 case round =>
  clear H'
  try clear c1
  try clear p2
  try clear c3
  try clear c3b0
  try clear c3b1
  try clear c3b2
  obtain ⟨x5_1,rfl,HA,HK1,HB⟩:=hrel
  cases gk with
  | zero => exact absurd HA.out (by simp [laws_eqGivenS.l0])
  | succ k1 =>
   have H:=HA.out
   clear HA
   simp only [laws_eqGivenS.l0] at H
   replace H:=iD_ H
   obtain ⟨c4b0,H⟩ | ⟨c4b0,H⟩:=H
   rotate_left
   ·obtain rfl:=Option.some.inj H
    go_wp2
    go_ret
    exact ⟨Er_,Lb_⟩
   rotate_right
   replace H:=iM_ H
   obtain ⟨c5b0,H⟩:=H
   replace H:=iM_ H
   obtain ⟨c6b0,H⟩:=H
   replace H:=bS_ H
   obtain ⟨t443,A7,H⟩:=H
   replace H:=iB_ H
   obtain ⟨rfl,H⟩ | ⟨rfl,H⟩:=H
   rotate_left
   ·obtain rfl:=Option.some.inj H
    try go_wp2
    replace HB:=Z_ (lD_ HB.out)
    have p441 : 0 ≤ (x5_1 : Int):=dA_
    have q441 : x5_1 < (l0.length : Int):=dA_
    obtain ⟨ad441,e441,hx441_0,hx441_1,hx441_2,hx441_3⟩:=at_T88 a0.out x5_1 p441 q441
    have hw441_3:=hx441_3
    have hw441_2:=hx441_2
    have hw441_1:=hx441_1
    have hw441_0:=hx441_0
    cases e441
    replace hx441_0:=cB_ HB hx441_0
    replace hx441_1:=cB_ HB hx441_1
    replace hx441_2:=cB_ HB hx441_2
    replace hx441_3:=cB_ HB hx441_3
    replace p441:=eq_true p441
    replace q441:=eq_true q441
    have p442 : 0 ≤ (x5_1 : Int):=dA_
    have q442 : x5_1 < (l1.length : Int):=dA_
    obtain ⟨ad442,e442,hx442_0,hx442_1,hx442_2,hx442_3⟩:=at_T88 a1.out x5_1 p442 q442
    have hw442_3:=hx442_3
    have hw442_2:=hx442_2
    have hw442_1:=hx442_1
    have hw442_0:=hx442_0
    cases e442
    replace hx442_0:=cB_ HB hx442_0
    replace hx442_1:=cB_ HB hx442_1
    replace hx442_2:=cB_ HB hx442_2
    replace hx442_3:=cB_ HB hx442_3
    replace p442:=eq_true p442
    replace q442:=eq_true q442
    refine start_ (n:=10) (S:=fun w' => w'.cell? (ad441.add ((x5_1).toNat * 4)) = some (.int .i64 ((rd_T88 l0 x5_1).f0)) ∧ w'.cell? ⟨(ad441.add ((x5_1).toNat * 4)).block,(ad441.add ((x5_1).toNat * 4)).off + 1,none⟩ = some (.int .i64 ((rd_T88 l0 x5_1).f1)) ∧ w'.cell? ⟨(ad441.add ((x5_1).toNat * 4)).block,(ad441.add ((x5_1).toNat * 4)).off + 2,none⟩ = some (.int .i64 ((rd_T88 l0 x5_1).f2)) ∧ w'.cell? ⟨(ad441.add ((x5_1).toNat * 4)).block,(ad441.add ((x5_1).toNat * 4)).off + 3,none⟩ = some (.int .i64 ((rd_T88 l0 x5_1).f3)) ∧ w'.cell? (ad442.add ((x5_1).toNat * 4)) = some (.int .i64 ((rd_T88 l1 x5_1).f0)) ∧ w'.cell? ⟨(ad442.add ((x5_1).toNat * 4)).block,(ad442.add ((x5_1).toNat * 4)).off + 1,none⟩ = some (.int .i64 ((rd_T88 l1 x5_1).f1)) ∧ w'.cell? ⟨(ad442.add ((x5_1).toNat * 4)).block,(ad442.add ((x5_1).toNat * 4)).off + 2,none⟩ = some (.int .i64 ((rd_T88 l1 x5_1).f2)) ∧ w'.cell? ⟨(ad442.add ((x5_1).toNat * 4)).block,(ad442.add ((x5_1).toNat * 4)).off + 3,none⟩ = some (.int .i64 ((rd_T88 l1 x5_1).f3))) (ds:=[]) (Bt 10 0) (by kernel_rfl) rfl rfl ⟨(cB_ HB hw441_0),(cB_ HB hw441_1),(cB_ HB hw441_2),(cB_ HB hw441_3),(cB_ HB hw442_0),(cB_ HB hw442_1),(cB_ HB hw442_2),(cB_ HB hw442_3)⟩ (fun hHeld => ?_);refine with_tabW laws_eqGivenS.tab6 laws_eqGivenS.bits6 (fun HT_ HW_ => ?_)
    generalize wr.drew = w11 at HB hx441_0 hx441_1 hx441_2 hx441_3 hx442_0 hx442_1 hx442_2 hx442_3 hHeld ⊢
    refine pu_ 0 (some 17) (Bt 10 1) (any_of HT_.out (by kernel_rfl)) ?_
    refine pu_ 1 (some 18) (Bt 10 3) (any_of HT_.out (by kernel_rfl)) ?_
    refine pu_ 2 (some 19) (Bt 10 7) (any_of HT_.out (by kernel_rfl)) ?_
    refine pu_ 4 (some 21) (Bt 10 23) (any_of HT_.out (by kernel_rfl)) ?_
    refine pu_ 5 (some 22) (Bt 10 55) (any_of HT_.out (by kernel_rfl)) ?_
    refine pu_ 6 (some 23) (Bt 10 119) (any_of HT_.out (by kernel_rfl)) ?_
    refine ta_ 3 (some 20) (Bt 10 127) (take_ofW HT_.out HW_.out (by kernel_rfl)) hHeld ?_
    refine ta_ 7 (some 24) (Bt 10 255) (take_ofW HT_.out HW_.out (by kernel_rfl)) hHeld ?_
    refine one_ (i:=8) (N:=some 25) (Bt 10 511) rfl rfl (one_of HT_.out (by kernel_rfl)) (by decide) (fun K hK => ?_)
    refine goes_ Tryz.func66 (by kernel_rfl) rfl #[.agg #[.int .i64 ((rd_T88 l0 x5_1).f0),.int .i64 ((rd_T88 l0 x5_1).f1),.int .i64 ((rd_T88 l0 x5_1).f2),.int .i64 ((rd_T88 l0 x5_1).f3)],.agg #[.int .i64 ((rd_T88 l1 x5_1).f0),.int .i64 ((rd_T88 l1 x5_1).f1),.int .i64 ((rd_T88 l1 x5_1).f2),.int .i64 ((rd_T88 l1 x5_1).f3)]] (by rfl) rfl rfl (by (try simp only [List.map_toArray,List.map_cons,List.map_nil]);first | done | rfl | (simp only [List.length_drop,List.length_take];rfl)) ?_
    with_reducible refine (laws_eqGiven.calls ((rd_T88 l0 x5_1).f0) ((rd_T88 l0 x5_1).f1) ((rd_T88 l0 x5_1).f2) ((rd_T88 l0 x5_1).f3) ((rd_T88 l1 x5_1).f0) ((rd_T88 l1 x5_1).f1) ((rd_T88 l1 x5_1).f2) ((rd_T88 l1 x5_1).f3) false _ A7.out).mono ?_
    rintro e w12 ⟨rfl,hb⟩
    refine ⟨_,rfl,?_⟩
    replace HB:=Z_ (lP_ Lb_ hb)
    (try clear hb)
    (try clear hb2)
    (try clear hk)
    (try clear hi)
    refine hK.out _ _ ⟨(cB_ HB hw441_0),(cB_ HB hw441_1),(cB_ HB hw441_2),(cB_ HB hw441_3),(cB_ HB hw442_0),(cB_ HB hw442_1),(cB_ HB hw442_2),(cB_ HB hw442_3)⟩ (fun hHeld => ?_)
    clear hK K
    refine norm_ (a':=?_) ?_ ?_
    rotate_left
    ·show Act.put _ (some 25) _ = _
     simp only [Act.put,lA_,lZ_,lS_,i64_w,i32_w]
     rfl
    refine pu_ 9 (some 26) (Bt 10 1023) (any_of HT_.out (by kernel_rfl)) ?_
    refine done_ (done_of HT_.out (by kernel_rfl)) ?_
    try go_wp2
    go_ret
    exact ⟨Er_,Lb_⟩
   rotate_right
   have H':=Z_ H
   clear H
   try go_wp2
   replace HB:=Z_ (lD_ HB.out)
   have p441 : 0 ≤ (x5_1 : Int):=dA_
   have q441 : x5_1 < (l0.length : Int):=dA_
   obtain ⟨ad441,e441,hx441_0,hx441_1,hx441_2,hx441_3⟩:=at_T88 a0.out x5_1 p441 q441
   have hw441_3:=hx441_3
   have hw441_2:=hx441_2
   have hw441_1:=hx441_1
   have hw441_0:=hx441_0
   cases e441
   replace hx441_0:=cB_ HB hx441_0
   replace hx441_1:=cB_ HB hx441_1
   replace hx441_2:=cB_ HB hx441_2
   replace hx441_3:=cB_ HB hx441_3
   replace p441:=eq_true p441
   replace q441:=eq_true q441
   have p442 : 0 ≤ (x5_1 : Int):=dA_
   have q442 : x5_1 < (l1.length : Int):=dA_
   obtain ⟨ad442,e442,hx442_0,hx442_1,hx442_2,hx442_3⟩:=at_T88 a1.out x5_1 p442 q442
   have hw442_3:=hx442_3
   have hw442_2:=hx442_2
   have hw442_1:=hx442_1
   have hw442_0:=hx442_0
   cases e442
   replace hx442_0:=cB_ HB hx442_0
   replace hx442_1:=cB_ HB hx442_1
   replace hx442_2:=cB_ HB hx442_2
   replace hx442_3:=cB_ HB hx442_3
   replace p442:=eq_true p442
   replace q442:=eq_true q442
   refine start_ (n:=10) (S:=fun w' => w'.cell? (ad441.add ((x5_1).toNat * 4)) = some (.int .i64 ((rd_T88 l0 x5_1).f0)) ∧ w'.cell? ⟨(ad441.add ((x5_1).toNat * 4)).block,(ad441.add ((x5_1).toNat * 4)).off + 1,none⟩ = some (.int .i64 ((rd_T88 l0 x5_1).f1)) ∧ w'.cell? ⟨(ad441.add ((x5_1).toNat * 4)).block,(ad441.add ((x5_1).toNat * 4)).off + 2,none⟩ = some (.int .i64 ((rd_T88 l0 x5_1).f2)) ∧ w'.cell? ⟨(ad441.add ((x5_1).toNat * 4)).block,(ad441.add ((x5_1).toNat * 4)).off + 3,none⟩ = some (.int .i64 ((rd_T88 l0 x5_1).f3)) ∧ w'.cell? (ad442.add ((x5_1).toNat * 4)) = some (.int .i64 ((rd_T88 l1 x5_1).f0)) ∧ w'.cell? ⟨(ad442.add ((x5_1).toNat * 4)).block,(ad442.add ((x5_1).toNat * 4)).off + 1,none⟩ = some (.int .i64 ((rd_T88 l1 x5_1).f1)) ∧ w'.cell? ⟨(ad442.add ((x5_1).toNat * 4)).block,(ad442.add ((x5_1).toNat * 4)).off + 2,none⟩ = some (.int .i64 ((rd_T88 l1 x5_1).f2)) ∧ w'.cell? ⟨(ad442.add ((x5_1).toNat * 4)).block,(ad442.add ((x5_1).toNat * 4)).off + 3,none⟩ = some (.int .i64 ((rd_T88 l1 x5_1).f3))) (ds:=[]) (Bt 10 0) (by kernel_rfl) rfl rfl ⟨(cB_ HB hw441_0),(cB_ HB hw441_1),(cB_ HB hw441_2),(cB_ HB hw441_3),(cB_ HB hw442_0),(cB_ HB hw442_1),(cB_ HB hw442_2),(cB_ HB hw442_3)⟩ (fun hHeld => ?_);refine with_tabW laws_eqGivenS.tab6 laws_eqGivenS.bits6 (fun HT_ HW_ => ?_)
   generalize wr.drew = w9 at HB hx441_0 hx441_1 hx441_2 hx441_3 hx442_0 hx442_1 hx442_2 hx442_3 hHeld ⊢
   refine pu_ 0 (some 17) (Bt 10 1) (any_of HT_.out (by kernel_rfl)) ?_
   refine pu_ 1 (some 18) (Bt 10 3) (any_of HT_.out (by kernel_rfl)) ?_
   refine pu_ 2 (some 19) (Bt 10 7) (any_of HT_.out (by kernel_rfl)) ?_
   refine pu_ 4 (some 21) (Bt 10 23) (any_of HT_.out (by kernel_rfl)) ?_
   refine pu_ 5 (some 22) (Bt 10 55) (any_of HT_.out (by kernel_rfl)) ?_
   refine pu_ 6 (some 23) (Bt 10 119) (any_of HT_.out (by kernel_rfl)) ?_
   refine ta_ 3 (some 20) (Bt 10 127) (take_ofW HT_.out HW_.out (by kernel_rfl)) hHeld ?_
   refine ta_ 7 (some 24) (Bt 10 255) (take_ofW HT_.out HW_.out (by kernel_rfl)) hHeld ?_
   refine one_ (i:=8) (N:=some 25) (Bt 10 511) rfl rfl (one_of HT_.out (by kernel_rfl)) (by decide) (fun K hK => ?_)
   refine goes_ Tryz.func66 (by kernel_rfl) rfl #[.agg #[.int .i64 ((rd_T88 l0 x5_1).f0),.int .i64 ((rd_T88 l0 x5_1).f1),.int .i64 ((rd_T88 l0 x5_1).f2),.int .i64 ((rd_T88 l0 x5_1).f3)],.agg #[.int .i64 ((rd_T88 l1 x5_1).f0),.int .i64 ((rd_T88 l1 x5_1).f1),.int .i64 ((rd_T88 l1 x5_1).f2),.int .i64 ((rd_T88 l1 x5_1).f3)]] (by rfl) rfl rfl (by (try simp only [List.map_toArray,List.map_cons,List.map_nil]);first | done | rfl | (simp only [List.length_drop,List.length_take];rfl)) ?_
   with_reducible refine (laws_eqGiven.calls ((rd_T88 l0 x5_1).f0) ((rd_T88 l0 x5_1).f1) ((rd_T88 l0 x5_1).f2) ((rd_T88 l0 x5_1).f3) ((rd_T88 l1 x5_1).f0) ((rd_T88 l1 x5_1).f1) ((rd_T88 l1 x5_1).f2) ((rd_T88 l1 x5_1).f3) true _ A7.out).mono ?_
   rintro e w10 ⟨rfl,hb⟩
   refine ⟨_,rfl,?_⟩
   replace HB:=Z_ (lP_ Lb_ hb)
   (try clear hb)
   (try clear hb2)
   (try clear hk)
   (try clear hi)
   refine hK.out _ _ ⟨(cB_ HB hw441_0),(cB_ HB hw441_1),(cB_ HB hw441_2),(cB_ HB hw441_3),(cB_ HB hw442_0),(cB_ HB hw442_1),(cB_ HB hw442_2),(cB_ HB hw442_3)⟩ (fun hHeld => ?_)
   clear hK K
   refine norm_ (a':=?_) ?_ ?_
   rotate_left
   ·show Act.put _ (some 25) _ = _
    simp only [Act.put,lA_,lZ_,lS_,i64_w,i32_w]
    rfl
   refine pu_ 9 (some 26) (Bt 10 1023) (any_of HT_.out (by kernel_rfl)) ?_
   refine done_ (done_of HT_.out (by kernel_rfl)) ?_
   try go_wp2
   go_roundg k1
   case measure => have:=HK1.out;omega
   case rel => exact ⟨(wrap64 (x5_1 + 1)),Sr_,H',⟨by have:=HK1.out;omega⟩,⟨Lb_⟩⟩
def laws_eqNet.f (k : Nat) (l0_0 : List (S83)) (l0_1 : List (S76)) (l0_2 l0_3 : List Int) (l0_4 l0_5 : List (S88)) (l1_0 : List (S83)) (l1_1 : List (S76)) (l1_2 l1_3 : List Int) (l1_4 l1_5 : List (S88)) : Option (Bool):=(laws_eqTermS.f k l0_0 l1_0).bind fun t446 => (if t446 = true then ((laws_eqGateS.f k l0_1 l1_1).bind fun t447 => (if t447 = true then ((laws_eqInt64S.f k l0_2 l1_2).bind fun t448 => (if t448 = true then ((laws_eqInt64S.f k l0_3 l1_3).bind fun t449 => (if t449 = true then ((laws_eqGivenS.f k l0_4 l1_4).bind fun t450 => (if t450 = true then ((laws_eqGivenS.f k l0_5 l1_5).bind fun t451 => (if t451 = true then (some true) else (some false))) else (some false))) else (some false))) else (some false))) else (some false))) else (some false))
set_option maxHeartbeats 8000000 in
set_option maxRecDepth 100000 in
theorem laws_eqNet.calls (k : Nat) (A0_0 : Option Addr) (c0_0 : Nat) (l0_0 : List (S83)) (A0_1 : Option Addr) (c0_1 : Nat) (l0_1 : List (S76)) (A0_2 : Option Addr) (c0_2 : Nat) (l0_2 : List Int) (A0_3 : Option Addr) (c0_3 : Nat) (l0_3 : List Int) (A0_4 : Option Addr) (c0_4 : Nat) (l0_4 : List (S88)) (A0_5 : Option Addr) (c0_5 : Nat) (l0_5 : List (S88)) (A1_0 : Option Addr) (c1_0 : Nat) (l1_0 : List (S83)) (A1_1 : Option Addr) (c1_1 : Nat) (l1_1 : List (S76)) (A1_2 : Option Addr) (c1_2 : Nat) (l1_2 : List Int) (A1_3 : Option Addr) (c1_3 : Nat) (l1_3 : List Int) (A1_4 : Option Addr) (c1_4 : Nat) (l1_4 : List (S88)) (A1_5 : Option Addr) (c1_5 : Nat) (l1_5 : List (S88)) (r : Bool) (w : World) (hr0_0 : Kd.C k83 w A0_0 l0_0.length l0_0) (hc0_0 : l0_0.length ≤ c0_0) (hr0_1 : Kd.C k76 w A0_1 l0_1.length l0_1) (hc0_1 : l0_1.length ≤ c0_1) (hr0_2 : Kd.C (Kd.int .i64) w A0_2 l0_2.length l0_2) (hc0_2 : l0_2.length ≤ c0_2) (hr0_3 : Kd.C (Kd.int .i64) w A0_3 l0_3.length l0_3) (hc0_3 : l0_3.length ≤ c0_3) (hr0_4 : Kd.C k88 w A0_4 l0_4.length l0_4) (hc0_4 : l0_4.length ≤ c0_4) (hr0_5 : Kd.C k88 w A0_5 l0_5.length l0_5) (hc0_5 : l0_5.length ≤ c0_5) (hr1_0 : Kd.C k83 w A1_0 l1_0.length l1_0) (hc1_0 : l1_0.length ≤ c1_0) (hr1_1 : Kd.C k76 w A1_1 l1_1.length l1_1) (hc1_1 : l1_1.length ≤ c1_1) (hr1_2 : Kd.C (Kd.int .i64) w A1_2 l1_2.length l1_2) (hc1_2 : l1_2.length ≤ c1_2) (hr1_3 : Kd.C (Kd.int .i64) w A1_3 l1_3.length l1_3) (hc1_3 : l1_3.length ≤ c1_3) (hr1_4 : Kd.C k88 w A1_4 l1_4.length l1_4) (hc1_4 : l1_4.length ≤ c1_4) (hr1_5 : Kd.C k88 w A1_5 l1_5.length l1_5) (hc1_5 : l1_5.length ≤ c1_5) (h : laws_eqNet.f k l0_0 l0_1 l0_2 l0_3 l0_4 l0_5 l1_0 l1_1 l1_2 l1_3 l1_4 l1_5 = some r) :
  Calls Tryz.prog 9 #[.agg #[.slice A0_0 l0_0.length c0_0,.slice A0_1 l0_1.length c0_1,.slice A0_2 l0_2.length c0_2,.slice A0_3 l0_3.length c0_3,.slice A0_4 l0_4.length c0_4,.slice A0_5 l0_5.length c0_5],.agg #[.slice A1_0 l1_0.length c1_0,.slice A1_1 l1_1.length c1_1,.slice A1_2 l1_2.length c1_2,.slice A1_3 l1_3.length c1_3,.slice A1_4 l1_4.length c1_4,.slice A1_5 l1_5.length c1_5]] w fun e w' => e = .returned (.bool r) ∧ Below w.heap.size w w':=by
 have hu34:=Tryz.underlying34
 have HR0_0:=Z_ hr0_0
 have HC0_0:=Z_ hc0_0
 clear hr0_0 hc0_0
 have HR0_1:=Z_ hr0_1
 have HC0_1:=Z_ hc0_1
 clear hr0_1 hc0_1
 have HR0_2:=Z_ hr0_2
 have HC0_2:=Z_ hc0_2
 clear hr0_2 hc0_2
 have HR0_3:=Z_ hr0_3
 have HC0_3:=Z_ hc0_3
 clear hr0_3 hc0_3
 have HR0_4:=Z_ hr0_4
 have HC0_4:=Z_ hc0_4
 clear hr0_4 hc0_4
 have HR0_5:=Z_ hr0_5
 have HC0_5:=Z_ hc0_5
 clear hr0_5 hc0_5
 have HR1_0:=Z_ hr1_0
 have HC1_0:=Z_ hc1_0
 clear hr1_0 hc1_0
 have HR1_1:=Z_ hr1_1
 have HC1_1:=Z_ hc1_1
 clear hr1_1 hc1_1
 have HR1_2:=Z_ hr1_2
 have HC1_2:=Z_ hc1_2
 clear hr1_2 hc1_2
 have HR1_3:=Z_ hr1_3
 have HC1_3:=Z_ hc1_3
 clear hr1_3 hc1_3
 have HR1_4:=Z_ hr1_4
 have HC1_4:=Z_ hc1_4
 clear hr1_4 hc1_4
 have HR1_5:=Z_ hr1_5
 have HC1_5:=Z_ hc1_5
 clear hr1_5 hc1_5
 have HB:=Z_ (Below.refl w.heap.size w)
 unfold laws_eqNet.f at h
 have H:=h
 clear h
 replace H:=bS_ H
 obtain ⟨t446,A3,H⟩:=H
 replace H:=iB_ H
 obtain ⟨rfl,H⟩ | ⟨rfl,H⟩:=H
 replace H:=bS_ H
 obtain ⟨t447,A5,H⟩:=H
 replace H:=iB_ H
 obtain ⟨rfl,H⟩ | ⟨rfl,H⟩:=H
 replace H:=bS_ H
 obtain ⟨t448,A7,H⟩:=H
 replace H:=iB_ H
 obtain ⟨rfl,H⟩ | ⟨rfl,H⟩:=H
 replace H:=bS_ H
 obtain ⟨t449,A9,H⟩:=H
 replace H:=iB_ H
 obtain ⟨rfl,H⟩ | ⟨rfl,H⟩:=H
 replace H:=bS_ H
 obtain ⟨t450,a9,H⟩:=H
 replace H:=iB_ H
 obtain ⟨rfl,H⟩ | ⟨rfl,H⟩:=H
 replace H:=bS_ H
 obtain ⟨t451,af,H⟩:=H
 replace H:=iB_ H
 obtain ⟨rfl,H⟩ | ⟨rfl,H⟩:=H
 all_goals
  obtain rfl:=Option.some.inj H
  go_enter Tryz.func9,Tryz.ntmps9
  go_wp2_with (first | ((with_reducible refine gD_ 2 rfl ?_);refine bx_ #[.slice A0_0 l0_0.length c0_0,.slice A0_1 l0_1.length c0_1,.slice A0_2 l0_2.length c0_2,.slice A0_3 l0_3.length c0_3,.slice A0_4 l0_4.length c0_4,.slice A0_5 l0_5.length c0_5] 34 ?_;intro a6 hg w30 hbox hb;have a0:=Z_ hbox;have a2:=Z_ ((by rw [hg];exact (below_size Lb_) : w.heap.size ≤ a6));replace HB:=Z_ (lP_ Lb_ hb);clear hb hbox hg) | ((with_reducible refine gD_ 3 rfl ?_);refine bx_ #[.slice A1_0 l1_0.length c1_0,.slice A1_1 l1_1.length c1_1,.slice A1_2 l1_2.length c1_2,.slice A1_3 l1_3.length c1_3,.slice A1_4 l1_4.length c1_4,.slice A1_5 l1_5.length c1_5] 34 ?_;intro a7 hg w16 hbox hb;have a1:=Z_ hbox;have a3:=Z_ ((by rw [hg];exact (below_size HB.out) : w.heap.size ≤ a7));replace HB:=Z_ (lP_ HB.out hb);have a4:=Z_ ((by rw [hg];exact Nat.ne_of_lt (blk_lt a0.out) : a6 ≠ a7));replace a0:=Z_ (bB_ a0.out hb);have a5:=Z_ a4.out.symm;clear hb hbox hg;have ag:=a4.out;have ah:=a5.out;obtain ⟨_,_,_,_,_,_,_,_,_,_,_,_⟩:=bc6 a0.out;obtain ⟨_,_,_,_,_,_,_,_,_,_,_,_⟩:=bc6 a1.out) | ((with_reducible refine gate_callee (f:=30) rfl ?_);refine goesA_ (some 9) rfl rfl Tryz.func30 (by kernel_rfl) rfl #[.slice A0_0 l0_0.length c0_0,.slice A1_0 l1_0.length c1_0] rfl ?_;(with_reducible refine (laws_eqTermS.calls k _ _ l0_0 _ _ l1_0 _ _ ?side1 ?side2 ?side3 ?side4 A3.out).mono ?_);(case side1 => exact Cb_ HR0_0);(case side2 => exact HC0_0.out);(case side3 => exact Cb_ HR1_0);(case side4 => exact HC1_0.out);rintro e w20 ⟨rfl,hb⟩;refine ⟨_,rfl,?_⟩;replace a0:=Z_ (bB_ a0.out hb);replace a1:=Z_ (bB_ a1.out hb);replace HB:=Z_ (lP_ HB.out hb);(try clear hb);obtain ⟨_,_,_,_,_,_,_,_,_,_,_,_⟩:=bc6 a0.out;obtain ⟨_,_,_,_,_,_,_,_,_,_,_,_⟩:=bc6 a1.out) | ((with_reducible refine gate_callee (f:=31) rfl ?_);refine goesA_ (some 15) rfl rfl Tryz.func31 (by kernel_rfl) rfl #[.slice A0_1 l0_1.length c0_1,.slice A1_1 l1_1.length c1_1] rfl ?_;(with_reducible refine (laws_eqGateS.calls k _ _ l0_1 _ _ l1_1 _ _ ?side1 ?side2 ?side3 ?side4 A5.out).mono ?_);(case side1 => exact Cb_ HR0_1);(case side2 => exact HC0_1.out);(case side3 => exact Cb_ HR1_1);(case side4 => exact HC1_1.out);rintro e w23 ⟨rfl,hb⟩;refine ⟨_,rfl,?_⟩;replace a0:=Z_ (bB_ a0.out hb);replace a1:=Z_ (bB_ a1.out hb);replace HB:=Z_ (lP_ HB.out hb);(try clear hb);obtain ⟨_,_,_,_,_,_,_,_,_,_,_,_⟩:=bc6 a0.out;obtain ⟨_,_,_,_,_,_,_,_,_,_,_,_⟩:=bc6 a1.out) | ((with_reducible refine gate_callee (f:=32) rfl ?_);refine goesA_ (some 21) rfl rfl Tryz.func32 (by kernel_rfl) rfl #[.slice A0_2 l0_2.length c0_2,.slice A1_2 l1_2.length c1_2] rfl ?_;(with_reducible refine (laws_eqInt64S.calls k _ _ l0_2 _ _ l1_2 _ _ ?side1 ?side2 ?side3 ?side4 A7.out).mono ?_);(case side1 => exact Cb_ HR0_2);(case side2 => exact HC0_2.out);(case side3 => exact Cb_ HR1_2);(case side4 => exact HC1_2.out);rintro e w' ⟨rfl,⟨nd,rfl⟩⟩;refine ⟨_,rfl,?_⟩) | ((with_reducible refine gate_callee (f:=32) rfl ?_);refine goesA_ (some 27) rfl rfl Tryz.func32 (by kernel_rfl) rfl #[.slice A0_3 l0_3.length c0_3,.slice A1_3 l1_3.length c1_3] rfl ?_;(with_reducible refine (laws_eqInt64S.calls k _ _ l0_3 _ _ l1_3 _ _ ?side1 ?side2 ?side3 ?side4 A9.out).mono ?_);(case side1 => exact Cb_ HR0_3);(case side2 => exact HC0_3.out);(case side3 => exact Cb_ HR1_3);(case side4 => exact HC1_3.out);rintro e w' ⟨rfl,⟨nd,rfl⟩⟩;refine ⟨_,rfl,?_⟩) | ((with_reducible refine gate_callee (f:=33) rfl ?_);refine goesA_ (some 33) rfl rfl Tryz.func33 (by kernel_rfl) rfl #[.slice A0_4 l0_4.length c0_4,.slice A1_4 l1_4.length c1_4] rfl ?_;(with_reducible refine (laws_eqGivenS.calls k _ _ l0_4 _ _ l1_4 _ _ ?side1 ?side2 ?side3 ?side4 a9.out).mono ?_);(case side1 => exact Cb_ HR0_4);(case side2 => exact HC0_4.out);(case side3 => exact Cb_ HR1_4);(case side4 => exact HC1_4.out);rintro e w26 ⟨rfl,hb⟩;refine ⟨_,rfl,?_⟩;replace a0:=Z_ (bB_ (g:=a6) (o:=.cells #[.slice A0_0 l0_0.length c0_0,.slice A0_1 l0_1.length c0_1,.slice A0_2 l0_2.length c0_2,.slice A0_3 l0_3.length c0_3,.slice A0_4 l0_4.length c0_4,.slice A0_5 l0_5.length c0_5] 34 (0,0)) (Bk_ a0) hb);replace a1:=Z_ (bB_ (g:=a7) (o:=.cells #[.slice A1_0 l1_0.length c1_0,.slice A1_1 l1_1.length c1_1,.slice A1_2 l1_2.length c1_2,.slice A1_3 l1_3.length c1_3,.slice A1_4 l1_4.length c1_4,.slice A1_5 l1_5.length c1_5] 34 (0,0)) (Bk_ a1) hb);replace HB:=Z_ (lP_ Lb_ hb);(try clear hb);obtain ⟨_,_,_,_,_,_,_,_,_,_,_,_⟩:=bc6 a0.out;obtain ⟨_,_,_,_,_,_,_,_,_,_,_,_⟩:=bc6 a1.out) | ((with_reducible refine gate_callee (f:=33) rfl ?_);refine goesA_ (some 39) rfl rfl Tryz.func33 (by kernel_rfl) rfl #[.slice A0_5 l0_5.length c0_5,.slice A1_5 l1_5.length c1_5] rfl ?_;(with_reducible refine (laws_eqGivenS.calls k _ _ l0_5 _ _ l1_5 _ _ ?side1 ?side2 ?side3 ?side4 af.out).mono ?_);(case side1 => exact Cb_ HR0_5);(case side2 => exact HC0_5.out);(case side3 => exact Cb_ HR1_5);(case side4 => exact HC1_5.out);rintro e w29 ⟨rfl,hb⟩;refine ⟨_,rfl,?_⟩;replace HB:=Z_ (lP_ Lb_ hb);(try clear hb)))
  go_ret
  exact ⟨Er_,Lb_⟩
end Go.Proofs.YtcafikgabidphaaGreat.G
