/- Part 3 of the proof of FnExactLearnsIt: what the functions on its road do, and the plain laws. -/
import Derived.Test.YtcafikgabidphaaGreatCFnExactLearnsIt2
import Derived.Shelf.Abstract
namespace Go.Proofs.YtcafikgabidphaaGreat.G
open Go.RowKit Go.Proofs.YtcafikgabidphaaGreatW.PrintWords Go.Proofs.YtcafikgabidphaaGreatW.PrintLast Go.Proofs.YtcafikgabidphaaGreatW.PrintMore
attribute [local go_sem] max2_int min2_int max_two min_two max_three min_three max_four min_four   -- for this text's walks alone
set_option linter.unusedVariables false
set_option linter.unusedSimpArgs false
theorem gS_ {P : Program} {f : FuncId} {x : Value} {w : World} {Q : Ending → World → Prop} (A : Option Addr) (l c : Nat) (h : Calls P f #[x,.slice A l c] w Q) : Calls P f #[x,.slice A l c] w Q:=h
theorem Bj_ {P Q : Prop} (a : Aside0 Q) (h : Q → P:=by intro h_;repeat (first | exact h_ | apply bN_ | apply bD_)) : P:=h a.out
theorem iB2_ {α : Type} {t : Bool} {x y : Option α} {r : α} (h : (if t = true then x else y) = some r) : t = true ∧ x = some r ∨ ¬ t = true ∧ y = some r:=by cases t <;> simp_all
def spec_NetFault.g (k : Nat) (lt : List S83) (lg : List S76) (lb lh : List Int) (lv lw : List S88) (u : Int) : Option Int :=
  if u = 0 then (spec_l12Broken.f k lb).bind fun b => if b = 0 then (spec_KnownFault.f k lt lh).bind fun n => if n = 0 then
    (if lv.any (gvBad lt lg) = true then some 3 else if lw.any (gvBad lt lg) = true then some 3 else some 0) else some n else some b else some u
def spec_NetFault.f (k : Nat) (lt : List S83) (lg : List S76) (lb lh : List Int) (lv lw : List S88) : Option Int :=
  (spec_TermsFault.f k lt).bind fun c => if c = 0 then
    (if (lg.length : Int) < 2 then some 2 else if 4 < (lg.length : Int) then some 2 else if 60 < (lv.length : Int) then some 2 else if 60 < (lw.length : Int) then some 2 else
      (nfGates (spec_l11Gate.f k lt) 0 lg).bind (spec_NetFault.g k lt lg lb lh lv lw)) else some c
set_option maxHeartbeats 8000000 in
set_option maxRecDepth 100000 in
theorem spec_NetFault.calls (k : Nat) (A0 : Option Addr) (c0 : Nat) (lt : List S83) (A1 : Option Addr) (c1 : Nat) (lg : List S76) (A2 : Option Addr) (c2 : Nat) (lb : List Int) (A3 : Option Addr) (c3 : Nat) (lh : List Int) (A4 : Option Addr) (c4 : Nat) (lv : List S88) (A5 : Option Addr) (c5 : Nat) (lw : List S88) (r : Int) (w : World) (hr0 : Kd.C k83 w A0 lt.length lt) (hc0 : lt.length ≤ c0) (hr1 : Kd.C k76 w A1 lg.length lg) (hc1 : lg.length ≤ c1) (hr2 : Kd.C (Kd.int .i64) w A2 lb.length lb) (hc2 : lb.length ≤ c2) (hr3 : Kd.C (Kd.int .i64) w A3 lh.length lh) (hc3 : lh.length ≤ c3) (hr4 : Kd.C k88 w A4 lv.length lv) (hc4 : lv.length ≤ c4) (hr5 : Kd.C k88 w A5 lw.length lw) (hc5 : lw.length ≤ c5) (h : spec_NetFault.f k lt lg lb lh lv lw = some r) :
    Calls Tryz.prog 20 #[.agg #[.slice A0 lt.length c0,.slice A1 lg.length c1,.slice A2 lb.length c2,.slice A3 lh.length c3,.slice A4 lv.length c4,.slice A5 lw.length c5]] w fun e w' => e = .returned (.int .i64 r) ∧ Below w.heap.size w w':=by
 have hu1:=Tryz.underlying34
 have hu2:=Tryz.underlying76
 have a0:=Z_ hr0
 have a1:=Z_ hc0
 clear hr0 hc0
 have a2:=Z_ hr1
 have a9:=Z_ hc1
 clear hr1 hc1
 have a3:=Z_ hr2
 have a4:=Z_ hc2
 clear hr2 hc2
 have a5:=Z_ hr3
 have a6:=Z_ hc3
 clear hr3 hc3
 have a7:=Z_ hr4
 have aa:=Z_ hc4
 clear hr4 hc4
 have a8:=Z_ hr5
 have ab:=Z_ hc5
 clear hr5 hc5
 have HN1:=Z_ a2.out.2.1
 have HB:=Z_ (Below.refl w.heap.size w)
 unfold spec_NetFault.f at h
 have H:=h
 clear h
 replace H:=bS_ H
 obtain ⟨c,HT,H⟩:=H
 replace H:=iE_ H
 obtain ⟨c0b0,c0b1,H⟩ | ⟨c0b0,c0b1,H⟩:=H
 replace H:=iD_ H
 obtain ⟨d10,H⟩ | ⟨d10,H⟩:=H
 focus
  have g0_:=trivial
 rotate_left
 replace H:=iD_ H
 obtain ⟨d20,H⟩ | ⟨d20,H⟩:=H
 focus
  have g0_:=trivial
 rotate_left
 replace H:=iD_ H
 obtain ⟨d30,H⟩ | ⟨d30,H⟩:=H
 focus
  have g0_:=trivial
 rotate_left
 replace H:=iD_ H
 obtain ⟨d40,H⟩ | ⟨d40,H⟩:=H
 focus
  have g0_:=trivial
 rotate_left
 rotate_left
 focus
  have g0_:=trivial
 rotate_right
 all_goals (try (clear g0_;clear HN1;obtain rfl:=Option.some.inj H;go_enter Tryz.func20,Tryz.ntmps20;go_wp2_with (first | ((with_reducible refine gD_ 1 rfl ?_);refine bx_ #[.slice A0 lt.length c0,.slice A1 lg.length c1,.slice A2 lb.length c2,.slice A3 lh.length c3,.slice A4 lv.length c4,.slice A5 lw.length c5] 34 ?_;intro p hg1 w1 hbox hb;have BI:=Z_ hbox;have SP:=Z_ ((by rw [hg1];exact (below_size HB.out) : w.heap.size ≤ p));replace HB:=Z_ (lP_ HB.out hb);clear hbox hb hg1;obtain ⟨_,_,_,_,_,_,_,_,_,_,_,_⟩:=bc6 BI.out) | (go_at_call 42;refine (spec_TermsFault.calls k A0 c0 lt c _ (Kd.C_below a0.out Lb_) a1.out HT.out).mono ?_;rintro e w7_ ⟨rfl,hb⟩;replace BI:=Z_ (bB_ (Bj_ BI) hb);replace HB:=Z_ (lP_ Lb_ hb);clear hb;obtain ⟨_,_,_,_,_,_,_,_,_,_,_,_⟩:=bc6 BI.out));go_ret;exact ⟨rfl,Lb_⟩))
 have H':=Z_ H
 clear H
 go_enter Tryz.func20,Tryz.ntmps20
 go_wp2_with (first | ((with_reducible refine gD_ 1 rfl ?_);refine bx_ #[.slice A0 lt.length c0,.slice A1 lg.length c1,.slice A2 lb.length c2,.slice A3 lh.length c3,.slice A4 lv.length c4,.slice A5 lw.length c5] 34 ?_;intro p hg1 w1 hbox hb;have BI:=Z_ hbox;have SP:=Z_ ((by rw [hg1];exact (below_size HB.out) : w.heap.size ≤ p));replace HB:=Z_ (lP_ HB.out hb);clear hbox hb hg1;obtain ⟨_,_,_,_,_,_,_,_,_,_,_,_⟩:=bc6 BI.out) | (go_at_call 42;refine (spec_TermsFault.calls k A0 c0 lt c _ (Kd.C_below a0.out Lb_) a1.out HT.out).mono ?_;rintro e w7_ ⟨rfl,hb⟩;replace BI:=Z_ (bB_ (Bj_ BI) hb);replace HB:=Z_ (lP_ Lb_ hb);clear hb;obtain ⟨_,_,_,_,_,_,_,_,_,_,_,_⟩:=bc6 BI.out))
 go_loopg [4] lg.length (fun gg v4 wr => ∃ kk : Nat,kk ≤ lg.length ∧ lg.length - kk ≤ gg ∧ v4 = .int .i64 kk ∧ Aside0 (wr.heap[p]? = some (.cells #[.slice A0 lt.length c0,.slice A1 lg.length c1,.slice A2 lb.length c2,.slice A3 lh.length c3,.slice A4 lv.length c4,.slice A5 lw.length c5] 34 (0,0))) ∧ Aside0 (Below w.heap.size w wr) ∧ Aside0 ((nfGates (spec_l11Gate.f k lt) kk (lg.drop kk)).bind (spec_NetFault.g k lt lg lb lh lv lw) = some r))
 case atStart => exact ⟨0,Nat.zero_le _,by omega,rfl,⟨Bj_ BI⟩,⟨Lb_⟩,H'⟩
 case round =>
  clear H' HB BI
  obtain ⟨kk,hkk,hgg,rfl,BI,HB,H⟩:=hrel
  obtain ⟨_,_,_,_,_,_,_,_,_,_,_,_⟩:=bc6 BI.out
  by_cases hlt : kk < lg.length
  rotate_left
  ·have hltz : ¬ (kk : Int) < (lg.length : Int):=by omega
   obtain rfl : kk = lg.length:=by omega
   replace H:=H.out
   rw [List.drop_length] at H
   replace H : spec_NetFault.g k lt lg lb lh lv lw 0 = some r:=H
   unfold spec_NetFault.g at H
   rw [if_pos rfl] at H
   replace H:=bS_ H
   obtain ⟨b,HBF,H⟩:=H
   replace H:=iE_ H
   obtain ⟨c6b0,c6b1,H⟩ | ⟨c6b0,c6b1,H⟩:=H
   rotate_left
   rotate_right
   replace H:=bS_ H
   obtain ⟨n,HKF,H⟩:=H
   replace H:=iE_ H
   obtain ⟨c7b0,c7b1,H⟩ | ⟨c7b0,c7b1,H⟩:=H
   rotate_left
   rotate_right
   replace H:=iB2_ H
   obtain ⟨v4,H⟩ | ⟨v4,H⟩:=H
   rotate_left
   replace H:=iB2_ H
   obtain ⟨v5,H⟩ | ⟨v5,H⟩:=H
   all_goals (obtain rfl:=Option.some.inj H;go_wp2_with (first | (go_at_call 44;(with_reducible refine (spec_l12Broken.calls k A2 c2 lb b _ (Kd.C_below a3.out Lb_) a4.out HBF.out).mono ?_);rintro e w' ⟨rfl,⟨nd,rfl⟩⟩) | (go_at_call 45;refine (spec_KnownFault.calls k A0 c0 lt A3 c3 lh n _ (Kd.C_below a0.out Lb_) a1.out (Kd.C_below a5.out Lb_) a6.out HKF.out).mono ?_;rintro e w7_ ⟨rfl,hb⟩;replace BI:=Z_ (bB_ (Bj_ BI) hb);replace HB:=Z_ (lP_ Lb_ hb);clear hb;obtain ⟨_,_,_,_,_,_,_,_,_,_,_,_⟩:=bc6 BI.out) | (go_at_call 46;(with_reducible refine gS_ A4 lv.length c4 ?_);refine (spec_l12Given.calls p A0 A1 A2 A3 A4 A5 c0 c1 c2 c3 c4 c5 lb.length lh.length lv.length lw.length lt lg A4 c4 lv _ (Bj_ BI) (Kd.C_below a0.out Lb_) a1.out (Kd.C_below a2.out Lb_) (Kd.C_below a7.out Lb_)).mono ?_;rintro e w7_ ⟨he,hb⟩;(first | rw [if_pos v4] at he | rw [if_neg v4] at he);subst he;replace BI:=Z_ (bB_ (Bj_ BI) hb);replace HB:=Z_ (lP_ Lb_ hb);clear hb;obtain ⟨_,_,_,_,_,_,_,_,_,_,_,_⟩:=bc6 BI.out) | (go_at_call 46;(with_reducible refine gS_ A5 lw.length c5 ?_);refine (spec_l12Given.calls p A0 A1 A2 A3 A4 A5 c0 c1 c2 c3 c4 c5 lb.length lh.length lv.length lw.length lt lg A5 c5 lw _ (Bj_ BI) (Kd.C_below a0.out Lb_) a1.out (Kd.C_below a2.out Lb_) (Kd.C_below a8.out Lb_)).mono ?_;rintro e w7_ ⟨he,hb⟩;(first | rw [if_pos v5] at he | rw [if_neg v5] at he);subst he;replace BI:=Z_ (bB_ (Bj_ BI) hb);replace HB:=Z_ (lP_ Lb_ hb);clear hb;obtain ⟨_,_,_,_,_,_,_,_,_,_,_,_⟩:=bc6 BI.out));go_ret;exact ⟨rfl,Lb_⟩)
  have hltz : (kk : Int) < (lg.length : Int):=by omega
  have pj : (0 ≤ (kk : Int)) = True:=eq_true (by omega)
  have qj : ((kk : Int) < (lg.length : Int)) = True:=eq_true (by omega)
  replace H:=H.out
  rw [nf_get lg kk hlt] at H
  unfold nfGates at H
  rw [Option.bind_assoc] at H
  replace H:=bS_ H
  obtain ⟨c9,HF,H⟩:=H
  have H1:=Z_ H
  clear H
  obtain ⟨ad,A2e,c2e,e,hx0,hx1,hx2,hTL,hTC⟩:=at_T76 a2.out (kk : Int) (by omega) (by omega)
  cases e
  rw [Int.toNat_natCast] at hx0 hx1 hx2
  replace hx0:=cB_ HB hx0
  replace hx1:=cB_ HB hx1
  replace hx2:=cB_ HB hx2
  generalize rd_T76 lg (kk : Int) = y at hx0 hx1 hx2 hTL hTC HF H1
  have HTL:=Z_ hTL
  have HTC:=Z_ hTC
  clear hTL hTC
  go_wp2
  replace BI:=Z_ (bD_ BI.out)
  replace HB:=Z_ (lD_ HB.out)
  replace hx0:=(show wr.drew.cell? _ = _ from hx0)
  replace hx1:=(show wr.drew.cell? _ = _ from hx1)
  replace hx2:=(show wr.drew.cell? _ = _ from hx2)
  refine start_ (n:=9) (S:=fun w' => w'.cell? ⟨p,0,none⟩ = some (.slice A0 lt.length c0) ∧ w'.cell? ⟨p,1,none⟩ = some (.slice (some ad) lg.length c1) ∧ w'.cell? (ad.add (kk * 3)) = some (.int .i64 y.f0) ∧ w'.cell? ⟨(ad.add (kk * 3)).block,(ad.add (kk * 3)).off + 1,none⟩ = some (.int .i64 y.f1) ∧ w'.cell? ⟨(ad.add (kk * 3)).block,(ad.add (kk * 3)).off + 2,none⟩ = some (.slice A2e y.f2.length c2e)) (ds:=[]) (Bt 9 0) (by kernel_rfl) rfl rfl ⟨(blk_cell BI.out 0).trans rfl,(blk_cell BI.out 1).trans rfl,hx0,hx1,hx2⟩ (fun hHeld => ?_)
  generalize wr.drew = wD at BI HB hHeld hx0 hx1 hx2 ⊢
  refine pu_ 0 (some 44) (Bt 9 1) (by kernel_rfl) ?_
  refine ta_ 1 (some 45) (Bt 9 3) (by kernel_rfl) hHeld ?_
  refine pu_ 2 (some 46) (Bt 9 7) (by kernel_rfl) ?_
  refine ta_ 3 (some 47) (Bt 9 15) (by kernel_rfl) hHeld ?_
  refine pu_ 4 (some 48) (Bt 9 31) (by kernel_rfl) ?_
  refine pu_ 5 (some 49) (Bt 9 63) (by kernel_rfl) ?_
  refine ta_ 6 (some 50) (Bt 9 127) (by kernel_rfl) hHeld ?_
  refine one_ (i:=7) (N:=some 51) (Bt 9 255) rfl rfl (by kernel_rfl) (by decide) (fun K hK => ?_)
  refine goes_ Tryz.func43 (by kernel_rfl) rfl #[.slice A0 lt.length c0,.agg #[.int .i64 y.f0,.int .i64 y.f1,.slice A2e y.f2.length c2e]] (by rfl) rfl rfl (by (try simp only [List.map_toArray,List.map_cons,List.map_nil]);first | done | rfl) ?_
  refine (spec_l11Gate.calls k A0 c0 lt y.f0 y.f1 A2e c2e y.f2 c9 _ (Kd.C_below a0.out HB.out) a1.out (Kd.C_below HTC.out HB.out) HTL.out HF.out).mono ?_
  rintro e w51 ⟨rfl,hb⟩
  refine ⟨_,rfl,?_⟩
  replace BI:=Z_ (bB_ BI.out hb)
  replace HB:=Z_ (lP_ HB.out hb)
  replace hx0:=(hb.cell (World.block_lt_of_cell? _ _ hx0)).trans hx0
  replace hx1:=(hb.cell (World.block_lt_of_cell? _ _ hx1)).trans hx1
  replace hx2:=(hb.cell (World.block_lt_of_cell? _ _ hx2)).trans hx2
  clear hb
  refine hK.out _ _ ⟨(blk_cell BI.out 0).trans rfl,(blk_cell BI.out 1).trans rfl,hx0,hx1,hx2⟩ (fun hHeld => ?_)
  clear hK K
  refine norm_ (a':=?_) ?_ ?_
  rotate_left
  ·show Act.put _ (some 51) _ = _
   simp only [Act.put,lA_,lZ_,lS_,i64_w,i32_w]
   rfl
  refine pu_ 8 (some 5) (Bt 9 511) (by kernel_rfl) ?_
  refine done_ (by kernel_rfl) ?_
  obtain ⟨_,_,_,_,_,_,_,_,_,_,_,_⟩:=bc6 BI.out
  replace H:=H1.out
  clear H1
  by_cases hz : c9 = 0
  rotate_left
  ·rw [if_neg hz] at H
   replace H : spec_NetFault.g k lt lg lb lh lv lw c9 = some r:=H
   unfold spec_NetFault.g at H
   rw [if_neg hz] at H
   have hz0 : (c9 == 0) = false:=by simpa using hz
   have hz1 : (c9 != 0) = true:=by simpa using hz
   clear hz
   obtain rfl:=Option.some.inj H
   go_wp2
   go_ret
   exact ⟨rfl,Lb_⟩
  subst hz
  rw [if_pos rfl] at H
  have hw1 : IntKind.i64.wrap ((kk : Int) + 1) = (kk : Int) + 1:=by rw [i64_w,w64g (by omega) (by have:=HN1.out;omega)]
  by_cases hid : y.f0 = (kk : Int) + 1
  rotate_left
  ·rw [if_neg hid] at H
   obtain rfl : 1 = r:=Option.some.inj H
   have hz0 : (y.f0 == (kk : Int) + 1) = false:=by simpa using hid
   have hz1 : (y.f0 != (kk : Int) + 1) = true:=by simpa using hid
   go_wp2
   go_ret
   exact ⟨rfl,Lb_⟩
  rw [if_pos hid] at H
  have hz0 : (y.f0 == (kk : Int) + 1) = true:=by simpa using hid
  have hz1 : (y.f0 != (kk : Int) + 1) = false:=by simpa using hid
  clear hid
  have H':=Z_ (show (nfGates (spec_l11Gate.f k lt) ((kk + 1 : Nat) : Int) (lg.drop (kk + 1))).bind (spec_NetFault.g k lt lg lb lh lv lw) = some r from by push_cast;exact H)
  clear H
  go_wp2
  go_roundg (lg.length - (kk + 1))
  case measure => omega
  case rel => exact ⟨kk + 1,by omega,by omega,(by have:=HN1.out;first | rfl | (rw [hw1];push_cast;rfl) | (rw [w64g (by omega) (by omega)];push_cast;rfl) | (push_cast;rfl)),⟨Bj_ BI⟩,⟨Lb_⟩,H'⟩
def spec_l1Has.l0 : Nat → List Int → Int → Int → Option (Bool)
 | 0,_,_,_ => none
 | k + 1,x0,x1,x5 => if x5 < (x0.length : Int) then (if 0 ≤ x5 then (if (rd x0 x5) = x1 then (some true) else (spec_l1Has.l0 k x0 x1 (wrap64 (x5 + 1)))) else (none)) else (some false)
def spec_l1Has.f (k : Nat) (l0 : List Int) (a1 : Int) : Option (Bool):=spec_l1Has.l0 k l0 a1 0
set_option maxHeartbeats 8000000 in
set_option maxRecDepth 100000 in
theorem spec_l1Has.calls (k : Nat) (A0 : Option Addr) (c0 : Nat) (l0 : List Int) (a1 : Int) (r : Bool) (w : World) (hr0 : Kd.C (Kd.int .i64) w A0 l0.length l0) (hc0 : l0.length ≤ c0) (h : spec_l1Has.f k l0 a1 = some r) :
  Calls Tryz.prog 67 #[.slice A0 l0.length c0,.int .i64 a1] w fun e w' => e = .returned (.bool r) ∧ Drawn0 w w':=by
 have HR0:=Z_ hr0
 have HC0:=Z_ hc0
 clear hr0 hc0
 unfold spec_l1Has.f at h
 have H:=h
 clear h
 have H':=Z_ H
 clear H
 go_enter Tryz.func67,Tryz.ntmps67
 go_wp2
 go_loopg [5] k (fun kq v5 w' => ∃ (x5_1 : Int),v5 = .int .i64 x5_1 ∧ Aside0 (spec_l1Has.l0 kq l0 a1 x5_1 = some r) ∧ Aside0 (kq ≤ k) ∧ Drawn0 w w')
 case atStart => exact ⟨(0),Sr_,H',⟨Nat.le_refl _⟩,by repeat (first | exact Drawn0.refl _ | apply Drawn0.step)⟩
 case round =>
  clear H'
  try clear p2
  obtain ⟨x5_1,rfl,HA,HK1,⟨m1,rfl⟩⟩:=hrel
  cases gk with
  | zero => exact absurd HA.out (by simp [spec_l1Has.l0])
  | succ k1 =>
   have H:=HA.out
   clear HA
   simp only [spec_l1Has.l0] at H
   replace H:=iD_ H
   obtain ⟨c3b0,H⟩ | ⟨c3b0,H⟩:=H
   rotate_left
   ·obtain rfl:=Option.some.inj H
    go_wp2
    go_ret
    exact ⟨by first | rfl | (simp;done) | (simp [*];done),by repeat (first | exact Drawn0.refl _ | apply Drawn0.step)⟩
   rotate_right
   replace H:=iM_ H
   obtain ⟨c4b0,H⟩:=H
   replace H:=iE_ H
   obtain ⟨c5b0,c5b1,H⟩ | ⟨c5b0,c5b1,H⟩:=H
   ·obtain rfl:=Option.some.inj H
    have p197 : 0 ≤ (x5_1 : Int):=dA_
    have q197 : x5_1 < (l0.length : Int):=dA_
    obtain ⟨ad197,e197,hx197_0⟩:=Kd.at_int HR0.out x5_1 p197 q197
    cases e197
    replace p197:=eq_true p197
    replace q197:=eq_true q197
    go_wp2
    go_ret
    exact ⟨by first | rfl | (simp;done) | (simp [*];done),by repeat (first | exact Drawn0.refl _ | apply Drawn0.step)⟩
   have H':=Z_ H
   clear H
   have p197 : 0 ≤ (x5_1 : Int):=dA_
   have q197 : x5_1 < (l0.length : Int):=dA_
   obtain ⟨ad197,e197,hx197_0⟩:=Kd.at_int HR0.out x5_1 p197 q197
   cases e197
   replace p197:=eq_true p197
   replace q197:=eq_true q197
   go_wp2
   go_roundg k1
   case measure => have:=HK1.out;omega
   case rel => exact ⟨(wrap64 (x5_1 + 1)),Sr_,H',⟨by have:=HK1.out;omega⟩,by repeat (first | exact Drawn0.refl _ | apply Drawn0.step)⟩
def riseAt (l : List Int) (x : Int) : Nat:=(l.takeWhile (fun y => decide (y < x))).length
def riseF (l : List Int) (x : Int) : List Int:=if riseAt l x < l.length ∧ rd l (riseAt l x : Int) = x then l else l.take (riseAt l x) ++ [x] ++ l.drop (riseAt l x)
theorem rise_at {l : List Int} {x : Int} {n : Nat} (hn : n ≤ l.length) (h : ∀ j : Nat,j < n → rd l (j : Int) < x) (he : n = l.length ∨ ¬ rd l (n : Int) < x) : riseAt l x = n:=by
  induction l generalizing n with
  | nil => simp at hn;subst hn;rfl
  | cons a r ih =>
    cases n with
    | zero =>
      rcases he with he | he
      · simp at he
      · have : ¬ a < x:=by simpa [rd] using he
        simp [riseAt,List.takeWhile,this]
    | succ n =>
      have h0 : a < x:=by have:=h 0 (by omega);simpa [rd] using this
      have:=ih (n:=n) (by simpa using hn) (fun j hj => by have:=h (j + 1) (by omega);simpa [rd] using this) (by rcases he with he | he;exact .inl (by simpa using he);exact .inr (by simpa [rd] using he))
      unfold riseAt at this ⊢
      simp [List.takeWhile,h0,this]
theorem repsR {w : World} {base : Nat} {ok : Nat → Prop} : ∀ xs : List Int,Reps ((Kd.int .i64).M w base ok) (Kd.int .i64).sz xs (xs.map (Value.int .i64))
  | xs => ⟨by simp [Kd.int,Kd.scalar],fun j p h => by
    obtain ⟨hj,rfl⟩:=List.getElem?_eq_some_iff.1 h
    show ((xs.map (Value.int .i64)).drop (j * 1)).take 1 = [.int .i64 xs[j]]
    rw [Nat.mul_one,List.drop_eq_getElem_cons (by simpa using hj)]
    simp⟩
def spec_l1Rise.f (l : List Int) (x : Int) : Option (List Int):=if l.length ≤ 100000 then some (riseF l x) else none
theorem w64r {n : Int} (h0 : -9223372036854775808 ≤ n) (h1 : n ≤ 9223372036854775807) : wrap64 n = n:=by unfold wrap64;omega
set_option maxHeartbeats 8000000 in
set_option maxRecDepth 100000 in
theorem spec_l1Rise.calls (v : Value) (l : List Int) (x : Int) (base : Nat) (r : List Int) (w : World) (hR : Kd.R (Kd.int .i64) 2 w base (fun _ => True) v l) (hb : base ≤ w.heap.size) (h : spec_l1Rise.f l x = some r) :
    Calls Tryz.prog 68 #[v,.int .i64 x] w fun e w' => ∃ v' : Value,e = .returned v' ∧ Kd.R (Kd.int .i64) 2 w' base (fun _ => True) v' r ∧ Below w.heap.size w w':=by
 unfold spec_l1Rise.f at h
 replace h:=iN_ h
 obtain ⟨hl,h⟩:=h
 replace h:=Option.some.inj h
 obtain ⟨A,c,ev⟩:=Kd.R_slice hR
 subst ev
 have HR:=Z_ hR
 have HC:=Z_ (Kd.R_reads' hR).2.2
 have HCC:=Z_ (Kd.R_reads' hR).2.1
 have HBS:=Z_ hb
 have HL:=Z_ hl
 have HX:=Z_ h
 have HB:=Z_ (Below.refl w.heap.size w)
 clear hR hb hl h
 have hut:=Tryz.underlying24
 obtain ⟨i0,hi0,_,hsz0,_⟩:=info_parts info2
 go_enter Tryz.func68,Tryz.ntmps68
 go_wp2
 go_loopg [5] l.length (fun gg v5 wr => ∃ kk : Nat,kk ≤ l.length ∧ l.length - kk ≤ gg ∧ v5 = .int .i64 kk ∧ Aside0 (∀ j : Nat,j < kk → rd l (j : Int) < x) ∧ Aside0 (wr = w))
 case atStart => exact ⟨0,Nat.zero_le _,by omega,rfl,⟨fun j hj => absurd hj (Nat.not_lt_zero _)⟩,⟨rfl⟩⟩
 case round =>
  obtain ⟨kk,hkk,hgg,rfl,HA,HW⟩:=hrel
  obtain rfl:=HW.out
  clear HW
  by_cases hgo : kk < l.length ∧ rd l (kk : Int) < x
  ·obtain ⟨ad,e,hy0⟩:=Kd.at_int HC.out (kk : Int) (by omega) (by omega)
   subst e
   rw [Int.toNat_natCast] at hy0
   have hltz : (kk : Int) < (l.length : Int):=by omega
   have hltd : decide ((kk : Int) < (l.length : Int)) = true:=decide_eq_true hltz
   have hlt2:=hgo.2
   have hA2:=HA.out
   generalize rd l (kk : Int) = y at hy0 hlt2
   have hlt3 : decide (y < x) = true:=decide_eq_true hlt2
   have hw1 : IntKind.i64.wrap ((kk : Int) + 1) = (kk : Int) + 1:=by rw [i64_w,w64r (by omega) (by have:=HL.out;omega)]
   go_wp2
   go_roundg (l.length - (kk + 1))
   case measure => omega
   case rel => exact ⟨kk + 1,by omega,by omega,(by first | rfl | (rw [hw1];push_cast;rfl) | (push_cast;rfl)),⟨fun j hj => by
     by_cases e : j = kk
     · subst e;exact hgo.2
     · exact hA2 j (by omega)⟩,⟨rfl⟩⟩
  ·have hat : riseAt l x = kk:=rise_at hkk HA.out (by by_cases e : kk = l.length;exact .inl e;exact .inr (fun h => hgo ⟨by omega,h⟩))
   have hx:=HX.out
   unfold riseF at hx
   rw [hat] at hx
   clear hat
   refine if hlt : kk < l.length then (if heq : rd l (kk : Int) = x then ?_ else ?_) else ?_
   ·rw [if_pos ⟨hlt,heq⟩] at hx
    subst hx
    obtain ⟨ad,e,hy0⟩:=Kd.at_int HC.out (kk : Int) (by omega) (by omega)
    subst e
    rw [Int.toNat_natCast,heq] at hy0
    have hltz : (kk : Int) < (l.length : Int):=by omega
    have hltd : decide ((kk : Int) < (l.length : Int)) = true:=decide_eq_true hltz
    have q1 : decide (x < x) = false:=decide_eq_false (by omega)
    have q2 : (x == x) = true:=by simp
    go_wp2
    go_ret
    exact ⟨_,rfl,HR.out,Below.refl _ _⟩
   all_goals
    first | rw [if_neg (fun h => heq h.2)] at hx | rw [if_neg (fun h => hlt h.1)] at hx
    have HX2:=Z_ hx
    clear hx HX
    have hcut:=cut_to (P:=Tryz.prog) 24 2 .i64 hut hi0 A l.length c (kk : Int) (by omega) (by omega) HCC.out
    have a1:=cut_from (P:=Tryz.prog) 24 2 .i64 hut hi0 1 hsz0 A l.length c (kk : Int) (by omega) (by omega)
    rw [Int.toNat_natCast] at hcut a1
    have hCT:=Kd.C_take (m:=kk) HC.out hkk
    have hCD:=Kd.C_drop (m:=kk) (c:=c) HC.out hkk HCC.out
    have hlT : (l.take kk).length = kk:=by rw [List.length_take];omega
    have hlD : (l.drop kk).length = l.length - kk:=List.length_drop
    rw [show kk * (Kd.int .i64).sz = kk * 1 from rfl] at hCD
    generalize (if c = kk then A else A.map (·.add (kk * 1))) = A2 at a1 hCD
    have CT:=Z_ hCT
    have CD:=Z_ hCD
    have LT:=Z_ hlT
    have LD:=Z_ hlD
    clear hCT hCD hlT hlD
    (try (obtain ⟨ad,e,hy0⟩:=Kd.at_int HC.out (kk : Int) (by omega) (by omega);subst e;rw [Int.toNat_natCast] at hy0;have hltz : (kk : Int) < (l.length : Int):=(by omega);have hltd : decide ((kk : Int) < (l.length : Int)) = true:=decide_eq_true hltz;have q1 : decide (rd l (kk : Int) < x) = false:=decide_eq_false (fun h => hgo ⟨by omega,h⟩);have q2 : (rd l (kk : Int) == x) = false:=(by simpa using heq)))
    (try (have hltz : ¬ (kk : Int) < (l.length : Int):=(by omega);have hltd : decide ((kk : Int) < (l.length : Int)) = false:=decide_eq_false hltz))
    go_wp2
    replace HB:=Z_ (lD_ HB.out)
    refine start_ (n:=13) (S:=fun _ => True) (ds:=[]) (Bt 13 0) (by kernel_rfl) rfl rfl trivial (fun hHeld => ?_)
    generalize hWD : wr.drew = wD at HB hHeld ⊢
    clear hWD hHeld
    refine pu_ 1 (some 34) (Bt 13 2) (by kernel_rfl) ?_
    refine pu_ 2 (some 35) (Bt 13 6) (by kernel_rfl) ?_
    refine pu_ 3 (some 36) (Bt 13 14) (by kernel_rfl) ?_
    refine pu_ 5 (some 38) (Bt 13 46) (by kernel_rfl) ?_
    refine pu_ 8 (some 41) (Bt 13 302) (by kernel_rfl) ?_
    refine pu_ 9 (some 42) (Bt 13 814) (by kernel_rfl) ?_
    refine pu_ 10 (some 43) (Bt 13 1838) (by kernel_rfl) ?_
    refine join_ (σ:=Value × Value × Option Addr × Nat) 3 (Bt 13 1919) (fun s_ => [(33,s_.1),(37,s_.2.1),(39,.slice s_.2.2.1 1 s_.2.2.2)]) (fun s_ W => Kd.R (Kd.int .i64) 2 W wr.heap.size (fun _ => True) s_.2.1 (l.take kk) ∧ Kd.C (Kd.int .i64) W s_.2.2.1 1 [x] ∧ Below wr.heap.size wr W) ?_ ?_
    rotate_left
    ·intro hCont
     refine two_ (i:=0) (j:=6) (Ni:=some 33) (Nj:=some 39) (Bt 13 1839) (Bt 13 1902) rfl rfl rfl rfl (by kernel_rfl) (by decide) (by decide) (fun K hK => ?_) (fun K hK => ?_)
     ·skip
      refine Kd.R_lit_step (Kd.int .i64) (w0:=wr) wr.heap.size 2 (by rfl) (N:=33) rfl (xs:=([] : List Int)) (inner:=[]) (ok:=fun _ => True) (okp:=fun _ => True) (by first | (go_simp;done) | (go_simp;rfl)) (repsR _) (fun _ hk => hk) trivial HB.out (below_size HB.out) (by simp) ?_
      intro v33 w33 ho hb hg hat
      have O33:=Z_ ho
      replace HB:=Z_ hb
      clear ho hb hg hat
      refine hK.out _ _ trivial (fun hHeld => ?_)
      clear hK K hHeld
      refine norm_ (a':=?_) ?_ ?_
      rotate_left
      ·show Act.put _ (some 33) _ = _
       simp only [Act.put,lA_,lZ_,lS_,i64_w,i32_w]
       rfl
      refine two_ (i:=4) (j:=6) (Ni:=some 37) (Nj:=some 39) (Bt 13 1855) (Bt 13 1903) rfl rfl rfl rfl (by kernel_rfl) (by decide) (by decide) (fun K hK => ?_) (fun K hK => ?_)
      ·skip
       refine Kd.R_append_rows_step (Kd.int .i64) (w0:=wr) wr.heap.size (by rfl) (.tmp 33) (.tmp 36) 24 2 (.int .i64 0) 8 rfl Tryz.underlying24 info2 rfl (by decide) (by omega) v33 ([]) (l.take kk) _ (kk) (c) (fun _ => True) (fun _ => False) rfl rfl O33.out (by have:=Kd.C_below CT.out HB.out;rw [LT.out] at this;exact this) (fun _ _ h => h) (fun _ h => h.elim) (fun _ _ => trivial) HB.out (below_size HB.out) (by have:=LT.out;have:=HL.out;simp;omega) ?_
       intro v37 w37 ho hb hg hat
       have O37:=Z_ ho
       replace HB:=Z_ hb
       clear ho hb hg hat O33
       refine hK.out _ _ trivial (fun hHeld => ?_)
       clear hK K hHeld
       refine norm_ (a':=?_) ?_ ?_
       rotate_left
       ·show Act.put _ (some 37) _ = _
        simp only [Act.put,lA_,lZ_,lS_,i64_w,i32_w]
        rfl
       refine one_ (i:=6) (N:=some 39) (Bt 13 1919) rfl rfl (by kernel_rfl) (by decide) (fun K hK => ?_)
       refine Kd.R_lit_step (Kd.int .i64) (w0:=wr) wr.heap.size 2 (by rfl) (N:=39) rfl (xs:=([x] : List Int)) (inner:=[.int .i64 x]) (ok:=fun _ => True) (okp:=fun _ => True) (by first | (go_simp;done) | (go_simp;rfl)) (repsR _) (fun _ hk => hk) trivial HB.out (below_size HB.out) (by simp) ?_
       intro v39 w39 ho hb hg hat
       replace O37:=Z_ (Kd.R_grown2 O37.out rfl hg (fun k e => by cases e))
       have O39:=Z_ ho
       replace HB:=Z_ hb
       clear ho hb hg hat
       obtain ⟨a0,c39,e39⟩:=Kd.R_slice O39.out
       subst e39
       refine hK.out _ _ trivial (fun hHeld => ?_)
       clear hK K hHeld
       refine norm_ (a':=?_) ?_ ?_
       rotate_left
       ·show Act.put _ (some 39) _ = _
        simp only [Act.put,lA_,lZ_,lS_,i64_w,i32_w]
        rfl
       exact norm_ (by first | (simp only [putAll,Act.put,lA_,lZ_,lS_];done) | (simp only [putAll,Act.put,lA_,lZ_,lS_];rfl)) (hCont (v33,v37,a0,c39) _ ⟨by simpa using O37.out,(Kd.R_reads' O39.out).2.2,HB.out⟩)
      ·skip
       refine Kd.R_lit_step (Kd.int .i64) (w0:=wr) wr.heap.size 2 (by rfl) (N:=39) rfl (xs:=([x] : List Int)) (inner:=[.int .i64 x]) (ok:=fun _ => True) (okp:=fun _ => True) (by first | (go_simp;done) | (go_simp;rfl)) (repsR _) (fun _ hk => hk) trivial HB.out (below_size HB.out) (by simp) ?_
       intro v39 w39 ho hb hg hat
       have NE : Aside0 (∀ k,v33.ownBlock = some k → some k ≠ v39.ownBlock):=⟨fun k hk e => by obtain ⟨b,hb1,hb2⟩:=hat;have:=Kd.R_lt O33.out k hk;rw [hb1] at e;injection e with e;omega⟩
       replace O33:=Z_ (Kd.R_grown2 O33.out rfl hg (fun k e => by cases e))
       have O39:=Z_ ho
       replace HB:=Z_ hb
       clear ho hb hg hat
       obtain ⟨a0,c39,e39⟩:=Kd.R_slice O39.out
       subst e39
       refine hK.out _ _ trivial (fun hHeld => ?_)
       clear hK K hHeld
       refine norm_ (a':=?_) ?_ ?_
       rotate_left
       ·show Act.put _ (some 39) _ = _
        simp only [Act.put,lA_,lZ_,lS_,i64_w,i32_w]
        rfl
       refine one_ (i:=4) (N:=some 37) (Bt 13 1919) rfl rfl (by kernel_rfl) (by decide) (fun K hK => ?_)
       refine Kd.R_append_rows_step (Kd.int .i64) (w0:=wr) wr.heap.size (by rfl) (.tmp 33) (.tmp 36) 24 2 (.int .i64 0) 8 rfl Tryz.underlying24 info2 rfl (by decide) (by omega) v33 ([]) (l.take kk) _ (kk) (c) (fun _ => True) (fun _ => False) rfl rfl O33.out (by have:=Kd.C_below CT.out HB.out;rw [LT.out] at this;exact this) (fun _ _ h => h) (fun _ h => h.elim) (fun _ _ => trivial) HB.out (below_size HB.out) (by have:=LT.out;have:=HL.out;simp;omega) ?_
       intro v37 w37 ho hb hg hat
       replace O39:=Z_ (Kd.R_grown2 O39.out rfl hg NE.out)
       have O37:=Z_ ho
       replace HB:=Z_ hb
       clear ho hb hg hat O33
       refine hK.out _ _ trivial (fun hHeld => ?_)
       clear hK K hHeld
       refine norm_ (a':=?_) ?_ ?_
       rotate_left
       ·show Act.put _ (some 37) _ = _
        simp only [Act.put,lA_,lZ_,lS_,i64_w,i32_w]
        rfl
       exact norm_ (by first | (simp only [putAll,Act.put,lA_,lZ_,lS_];done) | (simp only [putAll,Act.put,lA_,lZ_,lS_];rfl)) (hCont (v33,v37,a0,c39) _ ⟨by simpa using O37.out,(Kd.R_reads' O39.out).2.2,HB.out⟩)
     ·skip
      refine Kd.R_lit_step (Kd.int .i64) (w0:=wr) wr.heap.size 2 (by rfl) (N:=39) rfl (xs:=([x] : List Int)) (inner:=[.int .i64 x]) (ok:=fun _ => True) (okp:=fun _ => True) (by first | (go_simp;done) | (go_simp;rfl)) (repsR _) (fun _ hk => hk) trivial HB.out (below_size HB.out) (by simp) ?_
      intro v39 w39 ho hb hg hat
      have O39:=Z_ ho
      replace HB:=Z_ hb
      clear ho hb hg hat
      obtain ⟨a0,c39,e39⟩:=Kd.R_slice O39.out
      subst e39
      refine hK.out _ _ trivial (fun hHeld => ?_)
      clear hK K hHeld
      refine norm_ (a':=?_) ?_ ?_
      rotate_left
      ·show Act.put _ (some 39) _ = _
       simp only [Act.put,lA_,lZ_,lS_,i64_w,i32_w]
       rfl
      refine one_ (i:=0) (N:=some 33) (Bt 13 1903) rfl rfl (by kernel_rfl) (by decide) (fun K hK => ?_)
      refine Kd.R_lit_step (Kd.int .i64) (w0:=wr) wr.heap.size 2 (by rfl) (N:=33) rfl (xs:=([] : List Int)) (inner:=[]) (ok:=fun _ => True) (okp:=fun _ => True) (by first | (go_simp;done) | (go_simp;rfl)) (repsR _) (fun _ hk => hk) trivial HB.out (below_size HB.out) (by simp) ?_
      intro v33 w33 ho hb hg hat
      have NE : Aside0 (∀ k,v33.ownBlock = some k → some k ≠ (.slice a0 1 c39 : Value).ownBlock):=⟨fun k hk e => by obtain ⟨b,hb1,hb2⟩:=hat;have:=Kd.R_lt O39.out k e.symm;rw [hb1] at hk;injection hk with hk;omega⟩
      replace O39:=Z_ (Kd.R_grown2 O39.out rfl hg (fun k e => by cases e))
      have O33:=Z_ ho
      replace HB:=Z_ hb
      clear ho hb hg hat
      refine hK.out _ _ trivial (fun hHeld => ?_)
      clear hK K hHeld
      refine norm_ (a':=?_) ?_ ?_
      rotate_left
      ·show Act.put _ (some 33) _ = _
       simp only [Act.put,lA_,lZ_,lS_,i64_w,i32_w]
       rfl
      refine one_ (i:=4) (N:=some 37) (Bt 13 1919) rfl rfl (by kernel_rfl) (by decide) (fun K hK => ?_)
      refine Kd.R_append_rows_step (Kd.int .i64) (w0:=wr) wr.heap.size (by rfl) (.tmp 33) (.tmp 36) 24 2 (.int .i64 0) 8 rfl Tryz.underlying24 info2 rfl (by decide) (by omega) v33 ([]) (l.take kk) _ (kk) (c) (fun _ => True) (fun _ => False) rfl rfl O33.out (by have:=Kd.C_below CT.out HB.out;rw [LT.out] at this;exact this) (fun _ _ h => h) (fun _ h => h.elim) (fun _ _ => trivial) HB.out (below_size HB.out) (by have:=LT.out;have:=HL.out;simp;omega) ?_
      intro v37 w37 ho hb hg hat
      replace O39:=Z_ (Kd.R_grown2 O39.out rfl hg NE.out)
      have O37:=Z_ ho
      replace HB:=Z_ hb
      clear ho hb hg hat O33
      refine hK.out _ _ trivial (fun hHeld => ?_)
      clear hK K hHeld
      refine norm_ (a':=?_) ?_ ?_
      rotate_left
      ·show Act.put _ (some 37) _ = _
       simp only [Act.put,lA_,lZ_,lS_,i64_w,i32_w]
       rfl
      exact norm_ (by first | (simp only [putAll,Act.put,lA_,lZ_,lS_];done) | (simp only [putAll,Act.put,lA_,lZ_,lS_];rfl)) (hCont (v33,v37,a0,c39) _ ⟨by simpa using O37.out,(Kd.R_reads' O39.out).2.2,HB.out⟩)
    clear HB
    rintro ⟨v33,v37,a0,c39⟩ w6 ⟨h37,h39,hB⟩
    dsimp only at h37 h39 hB ⊢
    have O37:=Z_ h37
    have C39:=Z_ h39
    have HB:=Z_ hB
    clear h37 h39 hB
    refine norm_ (a':=?_) ?_ ?_
    rotate_left
    ·simp only [putAll,Act.put,lA_,lZ_,lS_]
     rfl
    refine one_ (i:=7) (N:=some 40) (Bt 13 2047) rfl rfl (by kernel_rfl) (by decide) (fun K hK => ?_)
    refine Kd.R_append_rows_step (Kd.int .i64) (w0:=wr) wr.heap.size (by rfl) (.tmp 37) (.tmp 39) 24 2 (.int .i64 0) 8 rfl Tryz.underlying24 info2 rfl (by decide) (by omega) v37 (l.take kk) ([x]) a0 (1) (c39) (fun _ => True) (fun _ => False) rfl rfl O37.out C39.out (fun _ _ h => h) (fun _ h => h.elim) (fun _ _ => trivial) HB.out (below_size HB.out) (by have:=LT.out;have:=HL.out;omega) ?_
    intro v40 w40 ho hb hg hat
    have O40:=Z_ ho
    replace HB:=Z_ hb
    clear ho hb hg hat O37
    refine hK.out _ _ trivial (fun hHeld => ?_)
    clear hK K hHeld
    refine norm_ (a':=?_) ?_ ?_
    rotate_left
    ·show Act.put _ (some 40) _ = _
     simp only [Act.put,lA_,lZ_,lS_,i64_w,i32_w]
     rfl
    refine one_ (i:=11) (N:=some 44) (Bt 13 4095) rfl rfl (by kernel_rfl) (by decide) (fun K hK => ?_)
    refine Kd.R_append_rows_step (Kd.int .i64) (w0:=wr) wr.heap.size (by rfl) (.tmp 40) (.tmp 43) 24 2 (.int .i64 0) 8 rfl Tryz.underlying24 info2 rfl (by decide) (by omega) v40 (l.take kk ++ [x]) (l.drop kk) A2 (l.length - kk) (c - kk) (fun _ => True) (fun _ => False) rfl rfl O40.out (by have:=Kd.C_below CD.out HB.out;rw [LD.out] at this;exact this) (fun _ _ h => h) (fun _ h => h.elim) (fun _ _ => trivial) HB.out (below_size HB.out) (by have:=LT.out;have:=HL.out;simp;omega) ?_
    intro v44 w44 ho hb hg hat
    have O44:=Z_ ho
    replace HB:=Z_ hb
    clear ho hb hg hat O40
    refine hK.out _ _ trivial (fun hHeld => ?_)
    clear hK K hHeld
    refine norm_ (a':=?_) ?_ ?_
    rotate_left
    ·show Act.put _ (some 44) _ = _
     simp only [Act.put,lA_,lZ_,lS_,i64_w,i32_w]
     rfl
    refine pu_ 12 (some 4) (Bt 13 8191) (by kernel_rfl) ?_
    refine done_ (by kernel_rfl) ?_
    go_wp2
    go_ret
    exact ⟨_,rfl,by rw [← HX2.out];exact Kd.R_lower O44.out HBS.out,HB.out⟩
def kwL (C : Int → Option Bool) : Nat → List S83 → List Int → Option (List Int)
  | _,[],out => some out
  | i,t :: ts,out => if t.f0 = 2 then (if t.f3 < 10 then (spec_l1Rise.f out (i : Int)).bind (kwL C (i + 1) ts) else (C t.f3).bind fun b => if b = true then (spec_l1Rise.f out (i : Int)).bind (kwL C (i + 1) ts) else kwL C (i + 1) ts out) else kwL C (i + 1) ts out
def spec_l12Known.f (k : Nat) (lt : List S83) (lb lh : List Int) : Option (List Int):=if lh.length ≤ 100000 then kwL (spec_l1Has.f k lb) 0 lt lh else none
set_option maxHeartbeats 8000000 in
set_option maxRecDepth 100000 in
theorem spec_l12Known.calls (k p : Nat) (A0 A1 A2 A3 A4 A5 : Option Addr) (c0 c1 c2 c3 c4 c5 n1 n4 n5 : Nat) (lt : List S83) (lb lh r : List Int) (w : World) (hI : w.heap[p]? = some (.cells #[.slice A0 lt.length c0,.slice A1 n1 c1,.slice A2 lb.length c2,.slice A3 lh.length c3,.slice A4 n4 c4,.slice A5 n5 c5] 34 (0,0))) (hr0 : Kd.C k83 w A0 lt.length lt) (hc0 : lt.length ≤ c0) (hr2 : Kd.C (Kd.int .i64) w A2 lb.length lb) (hc2 : lb.length ≤ c2) (hr3 : Kd.C (Kd.int .i64) w A3 lh.length lh) (hc3 : lh.length ≤ c3) (h : spec_l12Known.f k lt lb lh = some r) :
    Calls Tryz.prog 34 #[.pointer (some ⟨p,0,none⟩)] w fun e w' => ∃ v : Value,e = .returned v ∧ Kd.R (Kd.int .i64) 2 w' w.heap.size (fun _ => True) v r ∧ Below w.heap.size w w':=by
 have hu1:=Tryz.underlying34
 have hu2:=Tryz.underlying83
 have BI:=Z_ hI
 have a7:=Z_ hr0
 have a9:=Z_ hc0
 have a5:=Z_ hr2
 have a6:=Z_ hc2
 have a8:=Z_ hr3
 have aa:=Z_ hc3
 have HN0:=Z_ hr0.2.1
 clear hI hr0 hc0 hr2 hc2 hr3 hc3
 have HB:=Z_ (Below.refl w.heap.size w)
 unfold spec_l12Known.f at h
 have H:=h
 clear h
 replace H:=iN_ H
 obtain ⟨hl0,H⟩:=H
 have HL0:=Z_ hl0
 clear hl0
 have H':=Z_ H
 clear H
 obtain ⟨_,_,_,_,_,_,_,_,_,_,_,_⟩:=bc6 BI.out
 go_enter Tryz.func34,Tryz.ntmps34
 go_wp2_with (first | ((with_reducible refine gD_ 6 rfl ?_);refine Kd.R_lit (Kd.int .i64) (w0:=w) w.heap.size 2 rfl (N:=6) rfl (xs:=([] : List Int)) (inner:=[]) (ok:=fun _ => True) (okp:=fun _ => True) (by first | (go_simp;done) | (go_simp;rfl)) (repsR _) (fun _ hk => hk) trivial HB.out (below_size HB.out) (by simp) ?_;intro v6 w6 ho hb hg hat;have HO:=Z_ ho;replace BI:=Z_ ((hg.block p (blk_lt BI.out) (fun e => by cases e)).trans BI.out);replace HB:=Z_ hb;clear ho hb hg hat;obtain ⟨_,_,_,_,_,_,_,_,_,_,_,_⟩:=bc6 BI.out) | ((with_reducible refine gate_builtin (b:=.append) (xs:=#[.tmp 6,.tmp 10]) rfl ?_);at_builtin;refine Kd.R_append_rows (Kd.int .i64) (w0:=w) w.heap.size rfl (.tmp 6) (.tmp 10) 24 2 (.int .i64 0) 8 rfl Tryz.underlying24 info2 rfl (by decide) (by omega) v6 [] lh A3 lh.length c3 (fun _ => True) (fun _ => False) rfl rfl HO.out (Kd.C_below a8.out HB.out) (fun _ _ h => h) (fun _ h => h.elim) (fun _ _ => trivial) HB.out (below_size HB.out) (by have:=HL0.out;simp;omega) ?_;intro v11 w11 ho hb hg hat;replace BI:=Z_ ((hg.block p (blk_lt BI.out) (fun e => (Kd.R_ne HO.out BI.out (by decide)) e)).trans BI.out);clear HO;have HO:=Z_ (show Kd.R (Kd.int .i64) 2 w11 w.heap.size (fun _ => True) v11 lh by simpa using ho);replace HB:=Z_ hb;clear ho hb hg hat;obtain ⟨_,_,_,_,_,_,_,_,_,_,_,_⟩:=bc6 BI.out))
 go_loopg [3,4] lt.length (fun gg v3 v4 wr => ∃ (kk : Nat) (out : List Int),kk ≤ lt.length ∧ lt.length - kk ≤ gg ∧ v4 = .int .i64 kk ∧ Aside0 (wr.heap[p]? = some (.cells #[.slice A0 lt.length c0,.slice A1 n1 c1,.slice A2 lb.length c2,.slice A3 lh.length c3,.slice A4 n4 c4,.slice A5 n5 c5] 34 (0,0))) ∧ Aside0 (Kd.R (Kd.int .i64) 2 wr w.heap.size (fun _ => True) v3 out) ∧ Aside0 (Below w.heap.size w wr) ∧ Aside0 (kwL (spec_l1Has.f k lb) kk (lt.drop kk) out = some r))
 case atStart => exact ⟨0,lh,Nat.zero_le _,by omega,rfl,BI,HO,HB,H'⟩
 case round =>
  clear H' HO HB BI
  obtain ⟨kk,out,hkn,hgg,rfl,BI,HO,HB,H⟩:=hrel
  obtain ⟨_,_,_,_,_,_,_,_,_,_,_,_⟩:=bc6 BI.out
  by_cases hlt : kk < lt.length
  rotate_left
  ·have hltz : ¬ (kk : Int) < (lt.length : Int):=by omega
   obtain rfl : kk = lt.length:=by omega
   have h:=H.out
   rw [List.drop_length] at h
   obtain rfl:=Option.some.inj h
   clear h H
   go_wp2
   go_ret
   exact ⟨_,rfl,Rk_ HO,Lb_⟩
  have hltz : (kk : Int) < (lt.length : Int):=by omega
  have h:=H.out
  clear H
  rw [kt_get lt kk hlt] at h
  unfold kwL at h
  obtain ⟨ad,e,hy0,hy1,hy2,hy3⟩:=at_T83 a7.out (kk : Int) (by omega) (by omega)
  rw [Int.toNat_natCast] at hy0 hy1 hy2 hy3
  subst e
  generalize rd_T83 lt (kk : Int) = x at hy0 hy1 hy2 hy3 h
  have HY:=Z_ (And.intro hy0 (And.intro hy1 (And.intro hy2 hy3)))
  replace hy0:=cB_ HB hy0
  replace hy1:=cB_ HB hy1
  replace hy2:=cB_ HB hy2
  replace hy3:=cB_ HB hy3
  have H:=Z_ h
  clear h
  go_upto_region 6 with (go_big_may;first | ((with_reducible refine gD_ 5 rfl ?_);refine bx_ #[.int .i64 0,.int .i64 0,.int .i64 0,.int .i64 0] 83 ?_;intro g5 hg w3 hbox hb;have a4:=Z_ (show w.heap.size ≤ g5 by rw [hg];exact below_size HB.out);have NP:=Z_ (show p ≠ g5 by rw [hg];exact Nat.ne_of_lt (blk_lt BI.out));replace BI:=Z_ (bB_ BI.out hb);replace HO:=Z_ (Kd.R_below HO.out hb);replace HB:=Z_ (lP_ HB.out hb);have BK:=Z_ hbox;clear hb hbox hg hy0 hy1 hy2 hy3;have hy0:=cB_ HB HY.out.1;have hy1:=cB_ HB HY.out.2.1;have hy2:=cB_ HB HY.out.2.2.1;have hy3:=cB_ HB HY.out.2.2.2;obtain ⟨_,_,_,_,_,_,_,_⟩:=bc4H BK.out;obtain ⟨_,_,_,_,_,_,_,_,_,_,_,_⟩:=bc6 BI.out))
  (try simp only [Act.put,lA_,lZ_,lS_])
  have n0_:=Z_ (blk_put (blk_put (blk_put (blk_put BK.out 0 (.int .i64 x.f0) rfl) 1 (.int .i64 x.f1) rfl) 2 (.int .i64 x.f2) rfl) 3 (.int .i64 x.f3) rfl)
  replace HO:=Z_ (R_set4 (a0:=.int .i64 x.f0) (a1:=.int .i64 x.f1) (a2:=.int .i64 x.f2) (a3:=.int .i64 x.f3) HO.out BK.out (by decide))
  replace BI:=Z_ (bF_ (bF_ (bF_ (bF_ BI.out NP.out (.int .i64 x.f0) (p:=⟨g5,0,none⟩)) NP.out (.int .i64 x.f1) (p:=⟨g5,1,none⟩)) NP.out (.int .i64 x.f2) (p:=⟨g5,2,none⟩)) NP.out (.int .i64 x.f3) (p:=⟨g5,3,none⟩))
  replace HB:=Z_ (lS1_ (j:=3) (v:=.int .i64 x.f3) (lS1_ (j:=2) (v:=.int .i64 x.f2) (lS1_ (j:=1) (v:=.int .i64 x.f1) (lS1_ (j:=0) (v:=.int .i64 x.f0) HB.out a4.out) a4.out) a4.out) a4.out)
  clear BK hy0 hy1 hy2 hy3
  have BK:=n0_
  clear n0_
  generalize (w3.setCell ⟨g5,0,none⟩ (.int .i64 x.f0) |>.setCell ⟨g5,1,none⟩ (.int .i64 x.f1) |>.setCell ⟨g5,2,none⟩ (.int .i64 x.f2) |>.setCell ⟨g5,3,none⟩ (.int .i64 x.f3)) = w4 at BK BI HO HB ⊢
  obtain ⟨_,_,_,_,_,_,_,_⟩:=bc4H BK.out
  obtain ⟨_,_,_,_,_,_,_,_,_,_,_,_⟩:=bc6 BI.out
  have hw1 : IntKind.i64.wrap ((kk : Int) + 1) = (kk : Int) + 1:=by rw [i64_w,w64k (by omega) (by have:=HN0.out;omega)]
  refine if q2 : x.f0 = 2 then (if q9 : x.f3 < 10 then ?_ else ?_) else ?_
  all_goals replace H:=H.out
  ·rw [if_pos q2,if_pos q9] at H
   replace H:=bS_ H
   obtain ⟨out2,HRS,H⟩:=H
   have H':=Z_ H
   clear H
   obtain ⟨_,_,_⟩:=eqTH q2
   have q9a : decide (x.f3 < 10) = true:=decide_eq_true q9
   clear q2 q9
   go_quiet (fail)
   go_wp2_with (first | (go_at_call 68;refine (spec_l1Rise.calls _ out (kk : Int) w.heap.size out2 _ (Rk_ HO) (below_size Lb_) HRS.out).mono ?_;rintro e w47 ⟨v47,rfl,ho,hb⟩;replace BI:=Z_ (bB_ (g:=p) (o:=.cells #[.slice (some ad) lt.length c0,.slice A1 n1 c1,.slice A2 lb.length c2,.slice A3 lh.length c3,.slice A4 n4 c4,.slice A5 n5 c5] 34 (0,0)) (Bk_ BI) hb);replace HB:=Z_ (lP_ Lb_ hb);clear HO;have HO:=Z_ ho;clear ho hb))
   go_roundg (lt.length - (kk + 1))
   case measure => omega
   case rel => exact ⟨kk + 1,out2,by omega,by omega,(by first | rfl | (rw [hw1];push_cast;rfl) | (push_cast;rfl)),⟨Bk_ BI⟩,⟨Rk_ HO⟩,⟨Lb_⟩,H'⟩
  ·rw [if_pos q2,if_neg q9] at H
   replace H:=bS_ H
   obtain ⟨b,HQ,H⟩:=H
   obtain ⟨_,_,_⟩:=eqTH q2
   have q9a : decide (x.f3 < 10) = false:=decide_eq_false q9
   clear q2 q9
   cases b with
   | true =>
    rw [if_pos rfl] at H
    replace H:=bS_ H
    obtain ⟨out2,HRS,H⟩:=H
    have H':=Z_ H
    clear H
    go_quiet (first | (go_at_call 67;refine (spec_l1Has.calls k A2 c2 lb x.f3 _ _ (Kd.C_below a5.out Lb_) a6.out HQ.out).mono ?_;rintro e w' ⟨rfl,⟨nd,rfl⟩⟩;(try first | exact ⟨rfl,_,World.drewN_drewN _ _ _⟩ | exact ⟨rfl,_,Eq.trans (World.drewN_drewN _ _ _) (congrArg (World.drewN _) (Nat.add_assoc _ _ _))⟩)))
    go_wp2_with (first | (go_at_call 68;refine (spec_l1Rise.calls _ out (kk : Int) w.heap.size out2 _ (Rk_ HO) (below_size Lb_) HRS.out).mono ?_;rintro e w47 ⟨v47,rfl,ho,hb⟩;replace BI:=Z_ (bB_ (g:=p) (o:=.cells #[.slice (some ad) lt.length c0,.slice A1 n1 c1,.slice A2 lb.length c2,.slice A3 lh.length c3,.slice A4 n4 c4,.slice A5 n5 c5] 34 (0,0)) (Bk_ BI) hb);replace HB:=Z_ (lP_ Lb_ hb);clear HO;have HO:=Z_ ho;clear ho hb))
    go_roundg (lt.length - (kk + 1))
    case measure => omega
    case rel => exact ⟨kk + 1,out2,by omega,by omega,(by first | rfl | (rw [hw1];push_cast;rfl) | (push_cast;rfl)),⟨Bk_ BI⟩,⟨Rk_ HO⟩,⟨Lb_⟩,H'⟩
   | false =>
    rw [if_neg (by decide)] at H
    have H':=Z_ H
    clear H
    go_quiet (first | (go_at_call 67;refine (spec_l1Has.calls k A2 c2 lb x.f3 _ _ (Kd.C_below a5.out Lb_) a6.out HQ.out).mono ?_;rintro e w' ⟨rfl,⟨nd,rfl⟩⟩;(try first | exact ⟨rfl,_,World.drewN_drewN _ _ _⟩ | exact ⟨rfl,_,Eq.trans (World.drewN_drewN _ _ _) (congrArg (World.drewN _) (Nat.add_assoc _ _ _))⟩)))
    go_wp2
    go_roundg (lt.length - (kk + 1))
    case measure => omega
    case rel => exact ⟨kk + 1,out,by omega,by omega,(by first | rfl | (rw [hw1];push_cast;rfl) | (push_cast;rfl)),⟨Bk_ BI⟩,⟨Rk_ HO⟩,⟨Lb_⟩,H'⟩
  ·rw [if_neg q2] at H
   have H':=Z_ H
   obtain ⟨_,_,_⟩:=eqFH q2
   clear H q2
   go_quiet (fail)
   go_wp2
   go_roundg (lt.length - (kk + 1))
   case measure => omega
   case rel => exact ⟨kk + 1,out,by omega,by omega,(by first | rfl | (rw [hw1];push_cast;rfl) | (push_cast;rfl)),⟨Bk_ BI⟩,⟨Rk_ HO⟩,⟨Lb_⟩,H'⟩
mutual
def spec_l6Make.l0 : Nat → List (S83) → List Int → List Bool → Int → Option (List Bool)
 | 0,_,_,_,_ => none
 | k + 1,x0,x1,x5,x6 => if x6 < (x1.length : Int) then (if 0 ≤ x6 then (if 0 ≤ (rd x1 x6) then (if (rd x1 x6) < (x5.length : Int) then (spec_l6Make.l0 k x0 x1 (x5.set ((rd x1 x6) : Int).toNat true) (wrap64 (x6 + 1))) else (none)) else (none)) else (none)) else (if 0 ≤ (x0.length : Int) then (if ((x0.length : Int) : Int).toNat ≤ 281474976710656 then (spec_l6Make.l1 k x0 x5 (List.replicate ((x0.length : Int) : Int).toNat false) 0) else (none)) else (none))
def spec_l6Make.l1 : Nat → List (S83) → List Bool → List Bool → Int → Option (List Bool)
 | 0,_,_,_,_ => none
 | k + 1,x0,x5,x7,x8 => if x8 < (x0.length : Int) then (if 0 ≤ x8 then (if ((rd_T83 x0 x8).f0) = 6 then (if x8 < (x5.length : Int) then (if rdOf false x5 x8 = true then (if 0 ≤ ((rd_T83 x0 x8).f1) then (if ((rd_T83 x0 x8).f1) < (x7.length : Int) then (spec_l6Make.l1 k x0 x5 (x7.set (((rd_T83 x0 x8).f1) : Int).toNat true) (wrap64 (x8 + 1))) else (none)) else (none)) else (spec_l6Make.l1 k x0 x5 x7 (wrap64 (x8 + 1)))) else (none)) else (spec_l6Make.l1 k x0 x5 x7 (wrap64 (x8 + 1)))) else (none)) else (spec_l6Make.l2 k x0 x5 x7 0)
def spec_l6Make.l2 : Nat → List (S83) → List Bool → List Bool → Int → Option (List Bool)
 | 0,_,_,_,_ => none
 | k + 1,x0,x5,x7,x9 => if x9 < (x0.length : Int) then (if 0 ≤ x9 then (if ((rd_T83 x0 x9).f0) = 1 then (if x9 < (x5.length : Int) then (spec_l6Make.l2 k x0 (x5.set (x9 : Int).toNat true) x7 (wrap64 (x9 + 1))) else (none)) else (if ((rd_T83 x0 x9).f0) = 3 then (spec_l6Make.j3 k x0 x5 x7 x9 ((rd_T83 x0 x9).f0) (((rd_T83 x0 x9).f0) == 3) ((rd_T83 x0 x9).f0) ((rd_T83 x0 x9).f1) ((rd_T83 x0 x9).f2) ((rd_T83 x0 x9).f3)) else (if ((rd_T83 x0 x9).f0) = 4 then (spec_l6Make.j3 k x0 x5 x7 x9 ((rd_T83 x0 x9).f0) (((rd_T83 x0 x9).f0) == 4) ((rd_T83 x0 x9).f0) ((rd_T83 x0 x9).f1) ((rd_T83 x0 x9).f2) ((rd_T83 x0 x9).f3)) else (spec_l6Make.j3 k x0 x5 x7 x9 ((rd_T83 x0 x9).f0) (((rd_T83 x0 x9).f0) == 5) ((rd_T83 x0 x9).f0) ((rd_T83 x0 x9).f1) ((rd_T83 x0 x9).f2) ((rd_T83 x0 x9).f3))))) else (none)) else (some x5)
def spec_l6Make.j3 : Nat → List (S83) → List Bool → List Bool → Int → Int → Bool → Int → Int → Int → Int → Option (List Bool)
 | 0,_,_,_,_,_,_,_,_,_,_ => none
 | k + 1,x0,x5,x7,x9,x67,x73,x212000,x212001,x212002,x212003 => if x73 = true then (if 0 ≤ x9 then (if x9 < (x5.length : Int) then (if rdOf false x5 x9 = true then (spec_l6Make.l2 k x0 (x5.set (x9 : Int).toNat true) x7 (wrap64 (x9 + 1))) else (if 0 ≤ x212001 then (if x212001 < (x5.length : Int) then (if rdOf false x5 x212001 = true then (if 0 ≤ x212002 then (if x212002 < (x5.length : Int) then (spec_l6Make.l2 k x0 (x5.set (x9 : Int).toNat (rdOf false x5 x212002)) x7 (wrap64 (x9 + 1))) else (none)) else (none)) else (spec_l6Make.l2 k x0 (x5.set (x9 : Int).toNat false) x7 (wrap64 (x9 + 1)))) else (none)) else (none))) else (none)) else (none)) else (if x67 = 6 then (if 0 ≤ x9 then (if x9 < (x5.length : Int) then (if rdOf false x5 x9 = true then (spec_l6Make.l2 k x0 (x5.set (x9 : Int).toNat true) x7 (wrap64 (x9 + 1))) else (if 0 ≤ x212001 then (if x212001 < (x5.length : Int) then (spec_l6Make.l2 k x0 (x5.set (x9 : Int).toNat (rdOf false x5 x212001)) x7 (wrap64 (x9 + 1))) else (none)) else (none))) else (none)) else (none)) else (if x67 = 7 then (if 0 ≤ x212001 then (if x212001 < (x5.length : Int) then (if 0 ≤ x212002 then (if x212002 < (x5.length : Int) then (if 0 ≤ x9 then (if x9 < (x5.length : Int) then (if rdOf false x5 x9 = true then (spec_l6Make.l2 k x0 (x5.set (x9 : Int).toNat true) x7 (wrap64 (x9 + 1))) else (if rdOf false x5 x212001 = true then (if rdOf false x5 x212002 = true then (spec_l6Make.l2 k x0 (x5.set (x9 : Int).toNat true) x7 (wrap64 (x9 + 1))) else (if x212002 < (x7.length : Int) then (if rdOf false x7 x212002 = true then (spec_l6Make.l2 k x0 (x5.set (x9 : Int).toNat true) x7 (wrap64 (x9 + 1))) else (spec_l6Make.l2 k x0 (x5.set (x9 : Int).toNat false) x7 (wrap64 (x9 + 1)))) else (none))) else (if rdOf false x5 x212002 = true then (if x212001 < (x7.length : Int) then (spec_l6Make.l2 k x0 (x5.set (x9 : Int).toNat (rdOf false x7 x212001)) x7 (wrap64 (x9 + 1))) else (none)) else (spec_l6Make.l2 k x0 (x5.set (x9 : Int).toNat false) x7 (wrap64 (x9 + 1)))))) else (none)) else (none)) else (none)) else (none)) else (none)) else (none)) else (spec_l6Make.l2 k x0 x5 x7 (wrap64 (x9 + 1)))))
end
def spec_l6Make.f (k : Nat) (l0 : List (S83)) (l1 : List Int) : Option (List Bool):=if 0 ≤ (l0.length : Int) then (if ((l0.length : Int) : Int).toNat ≤ 281474976710656 then (spec_l6Make.l0 k l0 l1 (List.replicate ((l0.length : Int) : Int).toNat false) 0) else (none)) else (none)
set_option maxHeartbeats 8000000 in
set_option maxRecDepth 100000 in
theorem spec_l6Make.calls (k : Nat) (A0 : Option Addr) (c0 : Nat) (l0 : List (S83)) (A1 : Option Addr) (c1 : Nat) (l1 : List Int) (r : List Bool) (w : World) (hr0 : Kd.C k83 w A0 l0.length l0) (hc0 : l0.length ≤ c0) (hr1 : Kd.C (Kd.int .i64) w A1 l1.length l1) (hc1 : l1.length ≤ c1) (h : spec_l6Make.f k l0 l1 = some r) :
  Calls Tryz.prog 77 #[.slice A0 l0.length c0,.slice A1 l1.length c1] w fun e w' => ∃ v0_ : Value,e = .returned (v0_) ∧ Kd.R Kd.bool 4 w' w.heap.size (fun _ => True) v0_ r ∧ Below w.heap.size w w':=by
 have hu83:=Tryz.underlying83
 have a5:=Z_ hr0
 have d5:=Z_ hc0
 clear hr0 hc0
 have ca:=Z_ hr1
 have d6:=Z_ hc1
 clear hr1 hc1
 have HB:=Z_ (Below.refl w.heap.size w)
 unfold spec_l6Make.f at h
 have H:=h
 clear h
 replace H:=iN_ H
 obtain ⟨c3,H⟩:=H
 have c3b0:=eq_true c3
 have c3b1 : decide (0 ≤ (l0.length : Int)) = true:=decide_eq_true c3
 clear c3
 replace H:=iN_ H
 obtain ⟨c4,H⟩:=H
 have c4b0:=eq_true c4
 have c4b1 : decide (((l0.length : Int) : Int).toNat ≤ 281474976710656) = true:=decide_eq_true c4
 clear c4
 obtain ⟨y198,hy198⟩ : ∃ y_ : List Bool,y_ = (List.replicate ((l0.length : Int) : Int).toNat false):=⟨_,rfl⟩
 replace H : (spec_l6Make.l0 k l0 l1 y198 0) = some r:=by first | (rw [hy198];with_reducible exact H) | (have H2_:=(Option.bind_some _ _).symm.trans H;rw [hy198];with_reducible exact H2_) | (have H2_:=(Option.bind_some _ _).symm.trans H;with_reducible exact H2_) | with_reducible exact H | (rw [hy198];exact H) | exact H
 have ak:=Z_ hy198
 clear hy198
 have H':=Z_ H
 clear H
 go_enter Tryz.func77,Tryz.ntmps77
 go_wp2_with (first | ((with_reducible refine gD_ 15 rfl ?_);refine Kd.R_make Kd.bool _ 4 rfl (N:=15) rfl 57 _ _ rfl (l0.length : Int) rfl rfl Tryz.underlying57 (.bool false) 1 info4 rfl (by decide) (by omega) false (ok:=fun _ => True) (okp:=fun _ => True) rfl (fun _ hk => hk) trivial (dA_) (Nat.le_trans (Nat.mul_le_mul_right _ (dA_ : (l0.length : Int).toNat ≤ 281474976710656)) (by omega)) (Below.refl _ _) (Nat.le_refl _) ?_;intro v199 w5 ho6 hb hg_ hnew_;clear hg_ hnew_;(first | rw [← ak.out] at ho6 | (simp only [Int.reduceToNat] at ho6;rw [← ak.out] at ho6));have b2:=Z_ (Kd.R_lower ho6 (below_size HB.out));replace HB:=Z_ (lP_ HB.out hb);clear hb ho6))
 go_loopg [6] k (fun kq v6 w' => ∃ (x5_1 : List Bool) (x6_1 : Int),v6 = .int .i64 x6_1 ∧ Aside0 (spec_l6Make.l0 kq l0 l1 x5_1 x6_1 = some r) ∧ Aside0 (kq ≤ k) ∧ Aside0 (Kd.R Kd.bool 4 w' w.heap.size (fun _ => True) v199 x5_1) ∧ Aside0 (Below w.heap.size w w'))
 case atStart => exact ⟨(y198),(0),Sr_,H',⟨Nat.le_refl _⟩,⟨Rk_ b2⟩,⟨Lb_⟩⟩
 case round =>
  clear H'
  try clear c1
  try clear p2
  try clear c3
  try clear c3b0
  try clear c3b1
  try clear c4
  try clear c4b0
  try clear c4b1
  obtain ⟨x5_1,x6_1,rfl,HA,HK1,a0,HB⟩:=hrel
  cases gk with
  | zero => exact absurd HA.out (by simp [spec_l6Make.l0])
  | succ k1 =>
   have H:=HA.out
   clear HA
   simp only [spec_l6Make.l0] at H
   replace H:=iC_ H
   obtain ⟨c7,H⟩ | ⟨c7,H⟩:=H
   ·have c7b0 : decide (x6_1 < (l1.length : Int)) = true:=decide_eq_true c7
    clear c7
    replace H:=iM_ H
    obtain ⟨c8b0,H⟩:=H
    replace H:=iM_ H
    obtain ⟨c9b0,H⟩:=H
    replace H:=iM_ H
    obtain ⟨c10b0,H⟩:=H
    obtain ⟨y202,hy202⟩ : ∃ y_ : List Bool,y_ = (x5_1.set ((rd l1 x6_1) : Int).toNat true):=⟨_,rfl⟩
    replace H : (spec_l6Make.l0 k1 l0 l1 y202 (wrap64 (x6_1 + 1))) = some r:=by first | (rw [hy202];with_reducible exact H) | (have H2_:=(Option.bind_some _ _).symm.trans H;rw [hy202];with_reducible exact H2_) | (have H2_:=(Option.bind_some _ _).symm.trans H;with_reducible exact H2_) | with_reducible exact H | (rw [hy202];exact H) | exact H
    have b3:=Z_ hy202
    clear hy202
    have H':=Z_ H
    clear H
    have p201 : 0 ≤ (x6_1 : Int):=dA_
    have q201 : x6_1 < (l1.length : Int):=dA_
    obtain ⟨ad201,e201,hx201_0⟩:=Kd.at_int ca.out x6_1 p201 q201
    cases e201
    replace hx201_0:=cB_ HB hx201_0
    replace p201:=eq_true p201
    replace q201:=eq_true q201
    have p11 : 0 ≤ ((rd l1 x6_1) : Int):=dA_
    have q11 : ((rd l1 x6_1) : Int) < ((x5_1.length : Int) : Int):=dA_
    obtain ⟨go11,bq,eo11,ar,gl11,cl11,HG11⟩:=Kd.R_form a0.out (by omega)
    (first | cases eo11 | (injection eo11 with ea_ en_ ec_;(first | subst ea_ | (injection ea_ with ea_;subst ea_));subst ec_;clear en_))
    have br:=Z_ ar
    have GG11:=Z_ HG11
    clear ar gl11 HG11
    obtain ⟨hx11_0,hf11_0⟩:=Kd.R_celln false a0.out ((rd l1 x6_1) : Int) p11 q11
    replace p11:=eq_true p11
    replace q11:=eq_true q11
    have HP12:=Kd.R_putg a0.out ((rd l1 x6_1) : Int) true
    go_wp2_with (first | ((with_reducible refine gate_store (t:=4) (p:=27) rfl ?_);refine store_event (t:=4) (p:=27) (v:=?vo_w13) (w1:=(wr.setCell ⟨go11,((rd l1 x6_1) : Int).toNat,none⟩ (.bool true))) ?hg ?ho ?hn ?hr ?_;(case ho => rfl);(case hg => rfl);(case hn => rfl);(case hr => first | (go_simp;done) | (go_simp;rfl));intro w13 hw;have hg : wr.grownBy w13 (some go11):=(by rw [hw];exact HP12.2);have hp_ : Kd.R Kd.bool 4 w13 w.heap.size (fun _ => True) (.slice (some ⟨go11,0,none⟩) x5_1.length bq) y202:=(by rw [hw,b3.out];exact HP12.1);clear HP12;replace a0:=Z_ (hp_);replace HB:=Z_ ((by rw [hw];exact lS1_ (HB.out) br.out : Below w.heap.size w w13));clear hg hw hp_))
    go_roundg k1
    case measure => have:=HK1.out;omega
    case rel => exact ⟨(y202),(wrap64 (x6_1 + 1)),Sr_,H',⟨by have:=HK1.out;omega⟩,⟨Rk_ a0⟩,⟨Lb_⟩⟩
   have c7b0 : decide (x6_1 < (l1.length : Int)) = false:=decide_eq_false c7
   clear c7
   replace H:=iN_ H
   obtain ⟨c14,H⟩:=H
   have c14b0:=eq_true c14
   have c14b1 : decide (0 ≤ (l0.length : Int)) = true:=decide_eq_true c14
   clear c14
   replace H:=iN_ H
   obtain ⟨c15,H⟩:=H
   have c15b0:=eq_true c15
   have c15b1 : decide (((l0.length : Int) : Int).toNat ≤ 281474976710656) = true:=decide_eq_true c15
   clear c15
   obtain ⟨y203,hy203⟩ : ∃ y_ : List Bool,y_ = (List.replicate ((l0.length : Int) : Int).toNat false):=⟨_,rfl⟩
   replace H : (spec_l6Make.l1 k1 l0 x5_1 y203 0) = some r:=by first | (rw [hy203];with_reducible exact H) | (have H2_:=(Option.bind_some _ _).symm.trans H;rw [hy203];with_reducible exact H2_) | (have H2_:=(Option.bind_some _ _).symm.trans H;with_reducible exact H2_) | with_reducible exact H | (rw [hy203];exact H) | exact H
   have al:=Z_ hy203
   clear hy203
   have H':=Z_ H
   clear H
   go_wp2_with (first | ((with_reducible refine gD_ 30 rfl ?_);refine Kd.R_make Kd.bool _ 4 rfl (N:=30) rfl 57 _ _ rfl (l0.length : Int) rfl rfl Tryz.underlying57 (.bool false) 1 info4 rfl (by decide) (by omega) false (ok:=fun _ => True) (okp:=fun _ => True) rfl (fun _ hk => hk) trivial (dA_) (Nat.le_trans (Nat.mul_le_mul_right _ (dA_ : (l0.length : Int).toNat ≤ 281474976710656)) (by omega)) (Below.refl _ _) (Nat.le_refl _) ?_;intro v204 w16 ho17 hb hg_ hnew_;clear hg_ hnew_;(first | rw [← al.out] at ho17 | (simp only [Int.reduceToNat] at ho17;rw [← al.out] at ho17));have b4:=Z_ (Kd.R_lower (Kd.R_new' ho17 (Kd.R_lt (Rk_ a0))) (below_size Lb_));replace a0:=Z_ (Kd.R_elder' (Rk_ a0) (Kd.R_base ho17) hb);replace HB:=Z_ (lP_ Lb_ hb);clear hb ho17))
   go_loopg [8] k1 (fun kq v8 w' => ∃ (x7_2 : List Bool) (x8_2 : Int),v8 = .int .i64 x8_2 ∧ Aside0 (spec_l6Make.l1 kq l0 x5_1 x7_2 x8_2 = some r) ∧ Aside0 (kq ≤ k1) ∧ Aside0 (Kd.R Kd.bool 4 w' w.heap.size (fun k_ => some k_ ≠ (v204 : Value).ownBlock) v199 x5_1) ∧ Aside0 (Kd.R Kd.bool 4 w' w.heap.size (fun k_ => some k_ ≠ (v199 : Value).ownBlock) v204 x7_2) ∧ Aside0 (Below w.heap.size w w'))
   case atStart => exact ⟨(y203),(0),Sr_,H',⟨Nat.le_refl _⟩,⟨by (with_reducible repeat first | apply rA_ | apply rN_ | apply rD_);exact Kd.R_mono a0.out (fun _ hk => hk.2)⟩,⟨by (with_reducible repeat first | apply rA_ | apply rN_ | apply rD_);exact Kd.R_mono b4.out (fun _ hk => hk.2)⟩,⟨Lb_⟩⟩
   case round =>
    clear H'
    try clear c1
    try clear p1
    try clear q1
    try clear hx1
    try clear p2
    try clear q2
    try clear hx2
    try clear c3
    try clear c3b0
    try clear c3b1
    try clear c4
    try clear c4b0
    try clear c4b1
    try clear p6
    try clear c7
    try clear c7b0
    try clear c8
    try clear c8b0
    try clear c9
    try clear c9b0
    try clear c10
    try clear c10b0
    try clear p11
    try clear q11
    try clear hx11
    try clear hf11
    try clear c14
    try clear c14b0
    try clear c14b1
    try clear c15
    try clear c15b0
    try clear c15b1
    try clear hx11_0
    try clear hx201_0
    try clear p11
    try clear p2
    try clear p201
    try clear q11
    try clear q201
    obtain ⟨x7_2,x8_2,rfl,HA,HK2,a0,a1,HB⟩:=hrel
    cases gk with
    | zero => exact absurd HA.out (by simp [spec_l6Make.l1])
    | succ k2 =>
     have H:=HA.out
     clear HA
     simp only [spec_l6Make.l1] at H
     replace H:=iC_ H
     obtain ⟨c18,H⟩ | ⟨c18,H⟩:=H
     ·have c18b0 : decide (x8_2 < (l0.length : Int)) = true:=decide_eq_true c18
      clear c18
      replace H:=iM_ H
      obtain ⟨c19b0,H⟩:=H
      replace H:=iE_ H
      obtain ⟨c20b0,c20b1,H⟩ | ⟨c20b0,c20b1,H⟩:=H
      rotate_left
      ·have H':=Z_ H
       clear H
       have p206 : 0 ≤ (x8_2 : Int):=dA_
       have q206 : x8_2 < (l0.length : Int):=dA_
       obtain ⟨ad206,e206,hx206_0,hx206_1,hx206_2,hx206_3⟩:=at_T83 a5.out x8_2 p206 q206
       cases e206
       replace hx206_0:=cB_ HB hx206_0
       replace hx206_1:=cB_ HB hx206_1
       replace hx206_2:=cB_ HB hx206_2
       replace hx206_3:=cB_ HB hx206_3
       replace p206:=eq_true p206
       replace q206:=eq_true q206
       go_wp2
       go_roundg k2
       case measure => have:=HK1.out;have:=HK2.out;omega
       case rel => exact ⟨(x7_2),(wrap64 (x8_2 + 1)),Sr_,H',⟨by have:=HK1.out;have:=HK2.out;omega⟩,⟨Rk_ a0⟩,⟨Rk_ a1⟩,⟨Lb_⟩⟩
      rotate_right
      replace H:=iM_ H
      obtain ⟨c21b0,H⟩:=H
      obtain ⟨bq22,hbq22⟩ : ∃ b_ : Bool,b_ = (rdOf false x5_1 x8_2):=⟨_,rfl⟩
      replace H : (if bq22 = true then (if 0 ≤ ((rd_T83 l0 x8_2).f1) then (if ((rd_T83 l0 x8_2).f1) < (x7_2.length : Int) then (spec_l6Make.l1 k2 l0 x5_1 (x7_2.set (((rd_T83 l0 x8_2).f1) : Int).toNat true) (wrap64 (x8_2 + 1))) else (none)) else (none)) else (spec_l6Make.l1 k2 l0 x5_1 x7_2 (wrap64 (x8_2 + 1)))) = some r:=by rw [← hbq22] at H;exact H
      have Nbq22:=Z_ hbq22
      clear hbq22
      replace H:=iB_ H
      obtain ⟨rfl,H⟩ | ⟨rfl,H⟩:=H
      rotate_left
      ·have H':=Z_ H
       clear H
       have p206 : 0 ≤ (x8_2 : Int):=dA_
       have q206 : x8_2 < (l0.length : Int):=dA_
       obtain ⟨ad206,e206,hx206_0,hx206_1,hx206_2,hx206_3⟩:=at_T83 a5.out x8_2 p206 q206
       cases e206
       replace hx206_0:=cB_ HB hx206_0
       replace hx206_1:=cB_ HB hx206_1
       replace hx206_2:=cB_ HB hx206_2
       replace hx206_3:=cB_ HB hx206_3
       replace p206:=eq_true p206
       replace q206:=eq_true q206
       obtain ⟨cq,cr,eo30⟩:=Kd.R_slice a0.out
       subst eo30
       have p207 : 0 ≤ (x8_2 : Int):=dA_
       have q207 : x8_2 < (x5_1.length : Int):=dA_
       obtain ⟨ad207,e207,hx207_0⟩:=Kd.at_bool (Kd.R_reads' a0.out).2.2 x8_2 p207 q207
       (try rw [← Nbq22.out] at hx207_0)
       cases e207
       replace p207:=eq_true p207
       replace q207:=eq_true q207
       go_wp2
       go_roundg k2
       case measure => have:=HK1.out;have:=HK2.out;omega
       case rel => exact ⟨(x7_2),(wrap64 (x8_2 + 1)),Sr_,H',⟨by have:=HK1.out;have:=HK2.out;omega⟩,⟨Rk_ a0⟩,⟨Rk_ a1⟩,⟨Lb_⟩⟩
      rotate_right
      replace H:=iM_ H
      obtain ⟨c24b0,H⟩:=H
      replace H:=iM_ H
      obtain ⟨c25b0,H⟩:=H
      obtain ⟨y209,hy209⟩ : ∃ y_ : List Bool,y_ = (x7_2.set (((rd_T83 l0 x8_2).f1) : Int).toNat true):=⟨_,rfl⟩
      replace H : (spec_l6Make.l1 k2 l0 x5_1 y209 (wrap64 (x8_2 + 1))) = some r:=by first | (rw [hy209];with_reducible exact H) | (have H2_:=(Option.bind_some _ _).symm.trans H;rw [hy209];with_reducible exact H2_) | (have H2_:=(Option.bind_some _ _).symm.trans H;with_reducible exact H2_) | with_reducible exact H | (rw [hy209];exact H) | exact H
      have b5:=Z_ hy209
      clear hy209
      have H':=Z_ H
      clear H
      have p206 : 0 ≤ (x8_2 : Int):=dA_
      have q206 : x8_2 < (l0.length : Int):=dA_
      obtain ⟨ad206,e206,hx206_0,hx206_1,hx206_2,hx206_3⟩:=at_T83 a5.out x8_2 p206 q206
      cases e206
      replace hx206_0:=cB_ HB hx206_0
      replace hx206_1:=cB_ HB hx206_1
      replace hx206_2:=cB_ HB hx206_2
      replace hx206_3:=cB_ HB hx206_3
      replace p206:=eq_true p206
      replace q206:=eq_true q206
      obtain ⟨cp,bs,eo27⟩:=Kd.R_slice a0.out
      subst eo27
      have p207 : 0 ≤ (x8_2 : Int):=dA_
      have q207 : x8_2 < (x5_1.length : Int):=dA_
      obtain ⟨ad207,e207,hx207_0⟩:=Kd.at_bool (Kd.R_reads' a0.out).2.2 x8_2 p207 q207
      (try rw [← Nbq22.out] at hx207_0)
      cases e207
      replace p207:=eq_true p207
      replace q207:=eq_true q207
      have p208 : 0 ≤ (x8_2 : Int):=dA_
      have q208 : x8_2 < (l0.length : Int):=dA_
      obtain ⟨ad208,e208,hx208_0,hx208_1,hx208_2,hx208_3⟩:=at_T83 a5.out x8_2 p208 q208
      obtain rfl : ad206 = ad208:=(by injection e208)
      replace hx208_0:=cB_ HB hx208_0
      replace hx208_1:=cB_ HB hx208_1
      replace hx208_2:=cB_ HB hx208_2
      replace hx208_3:=cB_ HB hx208_3
      replace p208:=eq_true p208
      replace q208:=eq_true q208
      have p26 : 0 ≤ (((rd_T83 l0 x8_2).f1) : Int):=dA_
      have q26 : (((rd_T83 l0 x8_2).f1) : Int) < ((x7_2.length : Int) : Int):=dA_
      obtain ⟨go26,ab,eo26,au,gl26,cl26,HG26⟩:=Kd.R_form a1.out (by omega)
      (first | cases eo26 | (injection eo26 with ea_ en_ ec_;(first | subst ea_ | (injection ea_ with ea_;subst ea_));subst ec_;clear en_))
      have bt:=Z_ au
      have GG26:=Z_ HG26
      clear au gl26 HG26
      obtain ⟨hx26_0,hf26_0⟩:=Kd.R_celln false a1.out (((rd_T83 l0 x8_2).f1) : Int) p26 q26
      replace p26:=eq_true p26
      replace q26:=eq_true q26
      have HP28:=Kd.R_putg a1.out (((rd_T83 l0 x8_2).f1) : Int) true
      go_wp2_with (first | ((with_reducible refine gate_store (t:=4) (p:=55) rfl ?_);refine store_event (t:=4) (p:=55) (v:=?vo_w29) (w1:=(wr.setCell ⟨go26,(((rd_T83 l0 x8_2).f1) : Int).toNat,none⟩ (.bool true))) ?hg ?ho ?hn ?hr ?_;(case ho => rfl);(case hg => rfl);(case hn => rfl);(case hr => first | (go_simp;done) | (go_simp;rfl));intro w29 hw;have hg : wr.grownBy w29 (some go26):=(by rw [hw];exact HP28.2);have hp_ : Kd.R Kd.bool 4 w29 w.heap.size (fun k_ => some k_ ≠ (.slice (some ad207) x5_1.length bs : Value).ownBlock) (.slice (some ⟨go26,0,none⟩) x7_2.length ab) y209:=(by rw [hw,b5.out];exact HP28.1);clear HP28;replace a0:=Z_ (Kd.R_after (v:=(.slice (some ⟨go26,0,none⟩) x7_2.length ab)) (v1:=(.slice (some ⟨go26,0,none⟩) x7_2.length ab)) (ok:=(fun _ => True)) (Kd.R_mono a0.out (fun _ hk => ⟨trivial,hk⟩)) hg (.inl rfl));replace a1:=Z_ (hp_);replace HB:=Z_ ((by rw [hw];exact lS1_ (HB.out) bt.out : Below w.heap.size w w29));clear hg hw hp_))
      go_roundg k2
      case measure => have:=HK1.out;have:=HK2.out;omega
      case rel => exact ⟨(y209),(wrap64 (x8_2 + 1)),Sr_,H',⟨by have:=HK1.out;have:=HK2.out;omega⟩,⟨by (with_reducible repeat first | apply rA_ | apply rN_ | apply rD_);exact Kd.R_mono a0.out (fun _ hk => hk.2)⟩,⟨Rk_ a1⟩,⟨Lb_⟩⟩
     have c18b0 : decide (x8_2 < (l0.length : Int)) = false:=decide_eq_false c18
     clear c18
     have H':=Z_ H
     clear H
     go_wp2
     go_loopg [9] k2 (fun kq v9 w' => ∃ (x5_3 : List Bool) (x9_3 : Int),v9 = .int .i64 x9_3 ∧ Aside0 (spec_l6Make.l2 kq l0 x5_3 x7_2 x9_3 = some r) ∧ Aside0 (kq ≤ k2) ∧ Aside0 (Kd.R Kd.bool 4 w' w.heap.size (fun k_ => some k_ ≠ (v204 : Value).ownBlock) v199 x5_3) ∧ Aside0 (Kd.R Kd.bool 4 w' w.heap.size (fun k_ => some k_ ≠ (v199 : Value).ownBlock) v204 x7_2) ∧ Aside0 (Below w.heap.size w w'))
     case atStart => exact ⟨(x5_1),(0),Sr_,H',⟨Nat.le_refl _⟩,⟨Rk_ a0⟩,⟨Rk_ a1⟩,⟨Lb_⟩⟩
     case round =>
      clear H'
      try clear c1
      try clear p1
      try clear q1
      try clear hx1
      try clear c2
      try clear p2
      try clear q2
      try clear hx2
      try clear hf2
      try clear c3
      try clear c3b0
      try clear c3b1
      try clear c4
      try clear c4b0
      try clear c4b1
      try clear p6
      try clear c7
      try clear c7b0
      try clear c8
      try clear c8b0
      try clear c9
      try clear c9b0
      try clear c10
      try clear c10b0
      try clear p11
      try clear q11
      try clear hx11
      try clear hf11
      try clear c14
      try clear c14b0
      try clear c14b1
      try clear c15
      try clear c15b0
      try clear c15b1
      try clear c18
      try clear c18b0
      try clear c19
      try clear c19b0
      try clear c20
      try clear c20b0
      try clear c20b1
      try clear p20
      try clear q20
      try clear hx20
      try clear c21
      try clear c21b0
      try clear q22
      try clear c23
      try clear c24
      try clear c24b0
      try clear c25
      try clear c25b0
      try clear p26
      try clear q26
      try clear hx26
      try clear hf26
      try clear hx11_0
      try clear hx201_0
      try clear hx206_0
      try clear hx206_1
      try clear hx206_2
      try clear hx206_3
      try clear hx207_0
      try clear hx208_0
      try clear hx208_1
      try clear hx208_2
      try clear hx208_3
      try clear hx26_0
      try clear p1
      try clear p11
      try clear p2
      try clear p201
      try clear p206
      try clear p207
      try clear p208
      try clear p26
      try clear p6
      try clear q1
      try clear q11
      try clear q2
      try clear q201
      try clear q206
      try clear q207
      try clear q208
      try clear q26
      obtain ⟨x5_3,x9_3,rfl,HA,HK3,a0,a1,HB⟩:=hrel
      cases gk with
      | zero => exact absurd HA.out (by simp [spec_l6Make.l2])
      | succ k3 =>
       have H:=HA.out
       clear HA
       simp only [spec_l6Make.l2] at H
       replace H:=iC_ H
       obtain ⟨c31,H⟩ | ⟨c31,H⟩:=H
       rotate_left
       ·have c31b0 : decide (x9_3 < (l0.length : Int)) = false:=decide_eq_false c31
        clear c31
        obtain rfl:=Option.some.inj H
        go_wp2
        go_ret
        exact ⟨_,Er_,by (with_reducible repeat first | apply rA_ | apply rN_ | apply rD_);exact Kd.R_mono a0.out (fun _ hk => trivial),Lb_⟩
       rotate_right
       have c31b0 : decide (x9_3 < (l0.length : Int)) = true:=decide_eq_true c31
       clear c31
       replace H:=iN_ H
       obtain ⟨c32,H⟩:=H
       have c32b0 : decide (0 ≤ x9_3) = true:=decide_eq_true c32
       clear c32
       replace H:=iC_ H
       obtain ⟨c33,H⟩ | ⟨c33,H⟩:=H
       ·have c33b0 : (((rd_T83 l0 x9_3).f0) == 1) = true:=beq_iff_eq.mpr c33
        have c33b1 : (((rd_T83 l0 x9_3).f0) != 1) = false:=bne_eq_false_iff_eq.mpr c33
        clear c33
        replace H:=iM_ H
        obtain ⟨c34b0,H⟩:=H
        obtain ⟨y212,hy212⟩ : ∃ y_ : List Bool,y_ = (x5_3.set (x9_3 : Int).toNat true):=⟨_,rfl⟩
        replace H : (spec_l6Make.l2 k3 l0 y212 x7_2 (wrap64 (x9_3 + 1))) = some r:=by first | (rw [hy212];with_reducible exact H) | (have H2_:=(Option.bind_some _ _).symm.trans H;rw [hy212];with_reducible exact H2_) | (have H2_:=(Option.bind_some _ _).symm.trans H;with_reducible exact H2_) | with_reducible exact H | (rw [hy212];exact H) | exact H
        have b6:=Z_ hy212
        clear hy212
        have H':=Z_ H
        clear H
        have p210 : 0 ≤ (x9_3 : Int):=dA_
        have q210 : x9_3 < (l0.length : Int):=dA_
        obtain ⟨ad210,e210,hx210_0,hx210_1,hx210_2,hx210_3⟩:=at_T83 a5.out x9_3 p210 q210
        cases e210
        replace hx210_0:=cB_ HB hx210_0
        replace hx210_1:=cB_ HB hx210_1
        replace hx210_2:=cB_ HB hx210_2
        replace hx210_3:=cB_ HB hx210_3
        replace p210:=eq_true p210
        replace q210:=eq_true q210
        go_wp2_with (first | ((with_reducible refine gD_ 10 rfl ?_);refine bx_ #[.int .i64 0,.int .i64 0,.int .i64 0,.int .i64 0] 83 ?_;intro a3 hg w36 hbox hb;replace a0:=Z_ (Kd.R_below a0.out hb);replace a1:=Z_ (Kd.R_below a1.out hb);have a2:=Z_ hbox;have a4:=Z_ ((by rw [hg];exact (below_size HB.out) : w.heap.size ≤ a3));replace HB:=Z_ (lP_ HB.out hb);clear hb hbox hg;obtain ⟨_,_,_,_,_,_,_,_⟩:=bc4 a2.out) | ((with_reducible refine gate_store (t:=83) (p:=10) rfl ?_);refine store_event (t:=83) (p:=10) (v:=?vo_w38) (w1:=((((w36.setCell ⟨a3,0,none⟩ (.int .i64 ((rd_T83 l0 x9_3).f0))).setCell ⟨a3,1,none⟩ (.int .i64 ((rd_T83 l0 x9_3).f1))).setCell ⟨a3,2,none⟩ (.int .i64 ((rd_T83 l0 x9_3).f2))).setCell ⟨a3,3,none⟩ (.int .i64 ((rd_T83 l0 x9_3).f3)))) ?hg ?ho ?hn ?hr ?_;(case ho => rfl);(case hg => rfl);(case hn => rfl);(case hr => first | (go_simp;done) | (go_simp;rfl));intro w38 hw;have n0_ : Aside0 (Kd.R Kd.bool 4 w38 w.heap.size (fun k_ => some k_ ≠ (v204 : Value).ownBlock) v199 x5_3):=⟨(by rw [hw];exact (Kd.R_mono (rfar4 (g:=a3) (Kd.R_types a0.out a2.out (by decide)) (fun _ hk => hk.2)) (fun _ hk => hk.1)))⟩;have n1_ : Aside0 (Kd.R Kd.bool 4 w38 w.heap.size (fun k_ => some k_ ≠ (v199 : Value).ownBlock) v204 x7_2):=⟨(by rw [hw];exact (Kd.R_mono (rfar4 (g:=a3) (Kd.R_types a1.out a2.out (by decide)) (fun _ hk => hk.2)) (fun _ hk => hk.1)))⟩;have n2_ : Aside0 (w38.heap[a3]? = some (.cells #[.int .i64 ((rd_T83 l0 x9_3).f0),.int .i64 ((rd_T83 l0 x9_3).f1),.int .i64 ((rd_T83 l0 x9_3).f2),.int .i64 ((rd_T83 l0 x9_3).f3)] 83 (0,0))):=⟨(by rw [hw];exact (by apply fill4;exact a2.out))⟩;have n3_ : Aside0 (Below w.heap.size w w38):=⟨(by rw [hw];exact Lb_)⟩;clear hw a0 a1 a2 HB;have a0:=n0_;have a1:=n1_;have a2:=n2_;have HB:=n3_;clear n0_ n1_ n2_ n3_;obtain ⟨_,_,_,_,_,_,_,_⟩:=bc4 a2.out;have p35 : 0 ≤ (x9_3 : Int):=dA_;have q35 : (x9_3 : Int) < ((x5_3.length : Int) : Int):=dA_;obtain ⟨go35,ac,eo35,av,gl35,cl35,HG35⟩:=Kd.R_form a0.out (by omega);(first | cases eo35 | (injection eo35 with ea_ en_ ec_;(first | subst ea_ | (injection ea_ with ea_;subst ea_));subst ec_;clear en_));have bu:=Z_ av;have GG35:=Z_ HG35;clear av gl35 HG35;obtain ⟨hx35_0,hf35_0⟩:=Kd.R_celln false a0.out (x9_3 : Int) p35 q35;replace p35:=eq_true p35;replace q35:=eq_true q35;obtain ⟨hy40_,hz40_⟩:=Kd.R_celln false a0.out (x9_3 : Int) (dA_) (dA_);have HP40:=Kd.R_putg a0.out (x9_3 : Int) true) | ((with_reducible refine gate_store (t:=4) (p:=72) rfl ?_);refine store_event (t:=4) (p:=72) (v:=?vo_w41) (w1:=(w38.setCell ⟨go35,(x9_3 : Int).toNat,none⟩ (.bool true))) ?hg ?ho ?hn ?hr ?_;(case ho => rfl);(case hg => rfl);(case hn => rfl);(case hr => first | (go_simp;done) | (go_simp;rfl));intro w41 hw;have hg : w38.grownBy w41 (some go35):=(by rw [hw];exact HP40.2);have hp_ : Kd.R Kd.bool 4 w41 w.heap.size (fun k_ => some k_ ≠ (v204 : Value).ownBlock) (.slice (some ⟨go35,0,none⟩) x5_3.length ac) y212:=(by rw [hw,b6.out];exact HP40.1);clear HP40;replace a0:=Z_ (hp_);replace a1:=Z_ (Kd.R_after (v:=(.slice (some ⟨go35,0,none⟩) x5_3.length ac)) (v1:=(.slice (some ⟨go35,0,none⟩) x5_3.length ac)) (ok:=(fun _ => True)) (Kd.R_mono a1.out (fun _ hk => ⟨trivial,hk⟩)) hg (.inl rfl));replace HB:=Z_ ((by rw [hw];exact lS1_ (HB.out) bu.out : Below w.heap.size w w41));clear hg hw hp_))
        go_roundg k3
        case measure => have:=HK1.out;have:=HK2.out;have:=HK3.out;omega
        case rel => exact ⟨(y212),(wrap64 (x9_3 + 1)),Sr_,H',⟨by have:=HK1.out;have:=HK2.out;have:=HK3.out;omega⟩,⟨Rk_ a0⟩,⟨by (with_reducible repeat first | apply rA_ | apply rN_ | apply rD_);exact Kd.R_mono a1.out (fun _ hk => hk.2)⟩,⟨Lb_⟩⟩
       have c33b0 : (((rd_T83 l0 x9_3).f0) == 1) = false:=beq_eq_false_iff_ne.mpr c33
       have c33b1 : (((rd_T83 l0 x9_3).f0) != 1) = true:=bne_iff_ne.mpr c33
       have ad:=Z_ H
       clear H
       have p210 : 0 ≤ (x9_3 : Int):=dA_
       have q210 : x9_3 < (l0.length : Int):=dA_
       obtain ⟨ad210,e210,hx210_0,hx210_1,hx210_2,hx210_3⟩:=at_T83 a5.out x9_3 p210 q210
       cases e210
       replace hx210_0:=cB_ HB hx210_0
       replace hx210_1:=cB_ HB hx210_1
       replace hx210_2:=cB_ HB hx210_2
       replace hx210_3:=cB_ HB hx210_3
       replace p210:=eq_true p210
       replace q210:=eq_true q210
       go_upto_if 73 with (first | ((with_reducible refine gate_dst (N:=10) rfl ?_);refine box_event ?hg (N:=10) ?hd (cs:=#[.int .i64 0,.int .i64 0,.int .i64 0,.int .i64 0]) (t:=83) ?hr ?_;(case hd => rfl);(case hg => rfl);(case hr => first | (go_simp;done) | (go_simp;rfl));intro a3 hg w43 hbox hb;have n0_:=Z_ (Kd.R_below (Rk_ a0) hb);have n1_:=Z_ (Kd.R_below (Rk_ a1) hb);have n2_:=Z_ (lP_ Lb_ hb);have n3_:=Z_ hbox;have n4_:=Z_ ((by rw [hg];exact (below_size Lb_) : w.heap.size ≤ a3));have n5_:=Z_ ((by rw [hg];exact (below_size Lb_) : w.heap.size ≤ a3));clear a0 a1 HB;have a0:=n0_;have a1:=n1_;have HB:=n2_;have a2:=n3_;have cb:=n4_;have a4:=n5_;clear n0_ n1_ n2_ n3_ n4_ n5_ hb hbox hg;obtain ⟨_,_,_,_,_,_,_,_⟩:=bc4 a2.out))
       (try simp only [Act.put,lA_,lZ_,lS_])
       go_cut [73] (fun v73 wc => ∃ (kq : Nat) (x73_41 : Bool),v73 = .bool x73_41 ∧ Aside0 (spec_l6Make.j3 kq l0 x5_3 x7_2 x9_3 ((rd_T83 l0 x9_3).f0) x73_41 ((rd_T83 l0 x9_3).f0) ((rd_T83 l0 x9_3).f1) ((rd_T83 l0 x9_3).f2) ((rd_T83 l0 x9_3).f3) = some r) ∧ Aside0 (kq ≤ k3) ∧ Aside0 (Kd.R Kd.bool 4 wc w.heap.size (fun k_ => some k_ ≠ (v204 : Value).ownBlock) v199 x5_3) ∧ Aside0 (Kd.R Kd.bool 4 wc w.heap.size (fun k_ => some k_ ≠ (v199 : Value).ownBlock) v204 x7_2) ∧ Aside0 (wc.heap[a3]? = some (.cells #[.int .i64 ((rd_T83 l0 x9_3).f0),.int .i64 ((rd_T83 l0 x9_3).f1),.int .i64 ((rd_T83 l0 x9_3).f2),.int .i64 ((rd_T83 l0 x9_3).f3)] 83 (0,0))) ∧ Aside0 (Below w.heap.size w wc))
       case first =>
        have H:=ad.out
        clear ad
        replace H:=iE_ H
        obtain ⟨c45b0,c45b1,H⟩ | ⟨c45b0,c45b1,H⟩:=H
        focus (first | rw [c45b0] | (simp only [i64_w,i32_w];rw [c45b0]) | skip)
        rotate_left
        (first | rw [c45b0] | (simp only [i64_w,i32_w];rw [c45b0]) | skip)
        replace H:=iE_ H
        obtain ⟨c46b0,c46b1,H⟩ | ⟨c46b0,c46b1,H⟩:=H
        all_goals
         have H':=Z_ H
         clear H
         go_wp2
         go_meet
         case rel => exact ⟨_,_,Sr_,H',⟨by have:=HK1.out;have:=HK2.out;have:=HK3.out;first | omega | exact Nat.le_refl _⟩,⟨by (with_reducible repeat first | apply rA_ | apply rN_ | apply rD_);exact Kd.R_mono (rfar4 (g:=a3) (Kd.R_types a0.out a2.out (by decide)) (fun _ hk => hk.2)) (fun _ hk => hk.1)⟩,⟨by (with_reducible repeat first | apply rA_ | apply rN_ | apply rD_);exact Kd.R_mono (rfar4 (g:=a3) (Kd.R_types a1.out a2.out (by decide)) (fun _ hk => hk.2)) (fun _ hk => hk.1)⟩,⟨by (with_reducible repeat first | apply bN_ | apply bD_ | apply bA_);apply fill4;(with_reducible repeat first | apply bN_ | apply bD_ | apply bA_);exact a2.out⟩,⟨Lb_⟩⟩
       case rest =>
        clear ad
        try clear c1
        try clear p1
        try clear q1
        try clear hx1
        try clear c2
        try clear p2
        try clear q2
        try clear hx2
        try clear hf2
        try clear c3
        try clear c3b0
        try clear c3b1
        try clear p3
        try clear q3
        try clear hx3
        try clear hf3
        try clear c4
        try clear c4b0
        try clear c4b1
        try clear p6
        try clear c7
        try clear c7b0
        try clear c8
        try clear c8b0
        try clear c9
        try clear c9b0
        try clear c10
        try clear c10b0
        try clear p11
        try clear q11
        try clear hx11
        try clear hf11
        try clear c14
        try clear c14b0
        try clear c14b1
        try clear c15
        try clear c15b0
        try clear c15b1
        try clear c18
        try clear c18b0
        try clear c19
        try clear c19b0
        try clear c20
        try clear c20b0
        try clear c20b1
        try clear p20
        try clear q20
        try clear hx20
        try clear c21
        try clear c21b0
        try clear p21
        try clear q21
        try clear hx21
        try clear q22
        try clear c23
        try clear c24
        try clear c24b0
        try clear c25
        try clear c25b0
        try clear p26
        try clear q26
        try clear hx26
        try clear hf26
        try clear c31
        try clear c31b0
        try clear c32
        try clear c32b0
        try clear c33
        try clear c33b0
        try clear c33b1
        try clear c34
        try clear c34b0
        try clear p35
        try clear q35
        try clear hx35
        try clear hf35
        try clear c45
        try clear c45b0
        try clear c45b1
        try clear c46
        try clear c46b0
        try clear c46b1
        try clear hx11_0
        try clear hx201_0
        try clear hx206_0
        try clear hx206_1
        try clear hx206_2
        try clear hx206_3
        try clear hx207_0
        try clear hx208_0
        try clear hx208_1
        try clear hx208_2
        try clear hx208_3
        try clear hx210_0
        try clear hx210_1
        try clear hx210_2
        try clear hx210_3
        try clear hx26_0
        try clear hx35_0
        try clear p1
        try clear p11
        try clear p2
        try clear p20
        try clear p201
        try clear p206
        try clear p207
        try clear p208
        try clear p210
        try clear p26
        try clear p35
        try clear p6
        try clear q1
        try clear q11
        try clear q2
        try clear q20
        try clear q201
        try clear q206
        try clear q207
        try clear q208
        try clear q210
        try clear q22
        try clear q26
        try clear q35
        obtain ⟨kq,x73_41,rfl,HA,HJ41,a0,a1,a2,HB⟩:=hcut
        cases kq with
        | zero => exact absurd HA.out (by simp [spec_l6Make.j3])
        | succ kj41 =>
         have H:=HA.out
         clear HA
         simp only [spec_l6Make.j3] at H
         replace H:=iB_ H
         obtain ⟨rfl,H⟩ | ⟨rfl,H⟩:=H
         ·replace H:=iM_ H
          obtain ⟨c48b0,H⟩:=H
          replace H:=iM_ H
          obtain ⟨c49b0,H⟩:=H
          obtain ⟨bq50,hbq50⟩ : ∃ b_ : Bool,b_ = (rdOf false x5_3 x9_3):=⟨_,rfl⟩
          replace H : (if bq50 = true then (spec_l6Make.l2 kj41 l0 (x5_3.set (x9_3 : Int).toNat true) x7_2 (wrap64 (x9_3 + 1))) else (if 0 ≤ ((rd_T83 l0 x9_3).f1) then (if ((rd_T83 l0 x9_3).f1) < (x5_3.length : Int) then (if rdOf false x5_3 ((rd_T83 l0 x9_3).f1) = true then (if 0 ≤ ((rd_T83 l0 x9_3).f2) then (if ((rd_T83 l0 x9_3).f2) < (x5_3.length : Int) then (spec_l6Make.l2 kj41 l0 (x5_3.set (x9_3 : Int).toNat (rdOf false x5_3 ((rd_T83 l0 x9_3).f2))) x7_2 (wrap64 (x9_3 + 1))) else (none)) else (none)) else (spec_l6Make.l2 kj41 l0 (x5_3.set (x9_3 : Int).toNat false) x7_2 (wrap64 (x9_3 + 1)))) else (none)) else (none))) = some r:=by rw [← hbq50] at H;exact H
          have Nbq50:=Z_ hbq50
          clear hbq50
          replace H:=iB_ H
          obtain ⟨rfl,H⟩ | ⟨rfl,H⟩:=H
          ·obtain ⟨y214,hy214⟩ : ∃ y_ : List Bool,y_ = (x5_3.set (x9_3 : Int).toNat true):=⟨_,rfl⟩
           replace H : (spec_l6Make.l2 kj41 l0 y214 x7_2 (wrap64 (x9_3 + 1))) = some r:=by first | (rw [hy214];with_reducible exact H) | (have H2_:=(Option.bind_some _ _).symm.trans H;rw [hy214];with_reducible exact H2_) | (have H2_:=(Option.bind_some _ _).symm.trans H;with_reducible exact H2_) | with_reducible exact H | (rw [hy214];exact H) | exact H
           have b7:=Z_ hy214
           clear hy214
           have H':=Z_ H
           clear H
           obtain ⟨ct,ae,eo53⟩:=Kd.R_slice a0.out
           subst eo53
           have p213 : 0 ≤ (x9_3 : Int):=dA_
           have q213 : x9_3 < (x5_3.length : Int):=dA_
           obtain ⟨ad213,e213,hx213_0⟩:=Kd.at_bool (Kd.R_reads' a0.out).2.2 x9_3 p213 q213
           (try rw [← Nbq50.out] at hx213_0)
           cases e213
           replace p213:=eq_true p213
           replace q213:=eq_true q213
           have p52 : 0 ≤ (x9_3 : Int):=dA_
           have q52 : (x9_3 : Int) < ((x5_3.length : Int) : Int):=dA_
           obtain ⟨go52,cu,eo52,aw,gl52,cl52,HG52⟩:=Kd.R_form a0.out (by omega)
           (first | cases eo52 | (injection eo52 with ea_ en_ ec_;(first | subst ea_ | (injection ea_ with ea_;subst ea_));subst ec_;clear en_))
           have bv:=Z_ aw
           have GG52:=Z_ HG52
           clear aw gl52 HG52
           (first | simp only [add_plain] at hx213_0 | skip)
           obtain ⟨hx52_0,hf52_0⟩:=Kd.R_celln false a0.out (x9_3 : Int) p52 q52
           replace p52:=eq_true p52
           replace q52:=eq_true q52
           have HP54:=Kd.R_putg a0.out (x9_3 : Int) true
           go_wp2_with (first | ((with_reducible refine gate_store (t:=4) (p:=97) rfl ?_);refine store_event (t:=4) (p:=97) (v:=?vo_w55) (w1:=(wc.setCell ⟨go52,(x9_3 : Int).toNat,none⟩ (.bool true))) ?hg ?ho ?hn ?hr ?_;(case ho => rfl);(case hg => rfl);(case hn => rfl);(case hr => first | (go_simp;done) | (go_simp;rfl));intro w55 hw;have hg : wc.grownBy w55 (some go52):=(by rw [hw];exact HP54.2);have hp_ : Kd.R Kd.bool 4 w55 w.heap.size (fun k_ => some k_ ≠ (v204 : Value).ownBlock) (.slice (some ⟨go52,0,none⟩) x5_3.length ae) y214:=(by rw [hw,b7.out];exact HP54.1);clear HP54;replace a0:=Z_ (hp_);replace a1:=Z_ (Kd.R_after (v:=(.slice (some ⟨go52,0,none⟩) x5_3.length ae)) (v1:=(.slice (some ⟨go52,0,none⟩) x5_3.length ae)) (ok:=(fun _ => True)) (Kd.R_mono a1.out (fun _ hk => ⟨trivial,hk⟩)) hg (.inl rfl));replace HB:=Z_ ((by rw [hw];exact lS1_ (HB.out) bv.out : Below w.heap.size w w55));clear hg hw hp_))
           go_roundg kj41
           case measure => have:=HK1.out;have:=HK2.out;have:=HK3.out;have:=HJ41.out;omega
           case rel => exact ⟨(y214),(wrap64 (x9_3 + 1)),Sr_,H',⟨by have:=HK1.out;have:=HK2.out;have:=HK3.out;have:=HJ41.out;omega⟩,⟨Rk_ a0⟩,⟨by (with_reducible repeat first | apply rA_ | apply rN_ | apply rD_);exact Kd.R_mono a1.out (fun _ hk => hk.2)⟩,⟨Lb_⟩⟩
          replace H:=iM_ H
          obtain ⟨c56b0,H⟩:=H
          replace H:=iM_ H
          obtain ⟨c57b0,H⟩:=H
          obtain ⟨bq58,hbq58⟩ : ∃ b_ : Bool,b_ = (rdOf false x5_3 ((rd_T83 l0 x9_3).f1)):=⟨_,rfl⟩
          replace H : (if bq58 = true then (if 0 ≤ ((rd_T83 l0 x9_3).f2) then (if ((rd_T83 l0 x9_3).f2) < (x5_3.length : Int) then (spec_l6Make.l2 kj41 l0 (x5_3.set (x9_3 : Int).toNat (rdOf false x5_3 ((rd_T83 l0 x9_3).f2))) x7_2 (wrap64 (x9_3 + 1))) else (none)) else (none)) else (spec_l6Make.l2 kj41 l0 (x5_3.set (x9_3 : Int).toNat false) x7_2 (wrap64 (x9_3 + 1)))) = some r:=by rw [← hbq58] at H;exact H
          have Nbq58:=Z_ hbq58
          clear hbq58
          replace H:=iB_ H
          obtain ⟨rfl,H⟩ | ⟨rfl,H⟩:=H
          rotate_left
          ·obtain ⟨y218,hy218⟩ : ∃ y_ : List Bool,y_ = (x5_3.set (x9_3 : Int).toNat false):=⟨_,rfl⟩
           replace H : (spec_l6Make.l2 kj41 l0 y218 x7_2 (wrap64 (x9_3 + 1))) = some r:=by first | (rw [hy218];with_reducible exact H) | (have H2_:=(Option.bind_some _ _).symm.trans H;rw [hy218];with_reducible exact H2_) | (have H2_:=(Option.bind_some _ _).symm.trans H;with_reducible exact H2_) | with_reducible exact H | (rw [hy218];exact H) | exact H
           have b9:=Z_ hy218
           clear hy218
           have H':=Z_ H
           clear H
           obtain ⟨cx,ag,eo68⟩:=Kd.R_slice a0.out
           subst eo68
           have p213 : 0 ≤ (x9_3 : Int):=dA_
           have q213 : x9_3 < (x5_3.length : Int):=dA_
           obtain ⟨ad213,e213,hx213_0⟩:=Kd.at_bool (Kd.R_reads' a0.out).2.2 x9_3 p213 q213
           (try rw [← Nbq50.out] at hx213_0)
           (try rw [← Nbq58.out] at hx213_0)
           cases e213
           replace p213:=eq_true p213
           replace q213:=eq_true q213
           obtain ⟨_,_,_,_,_,_,_,_⟩:=bc4 a2.out
           have p215 : 0 ≤ (((rd_T83 l0 x9_3).f1) : Int):=dA_
           have q215 : ((rd_T83 l0 x9_3).f1) < (x5_3.length : Int):=dA_
           obtain ⟨ad215,e215,hx215_0⟩:=Kd.at_bool (Kd.R_reads' a0.out).2.2 ((rd_T83 l0 x9_3).f1) p215 q215
           (try rw [← Nbq50.out] at hx215_0)
           (try rw [← Nbq58.out] at hx215_0)
           obtain rfl : ad213 = ad215:=(by injection e215)
           replace p215:=eq_true p215
           replace q215:=eq_true q215
           have p67 : 0 ≤ (x9_3 : Int):=dA_
           have q67 : (x9_3 : Int) < ((x5_3.length : Int) : Int):=dA_
           obtain ⟨go67,cy,eo67,ay,gl67,cl67,HG67⟩:=Kd.R_form a0.out (by omega)
           (first | cases eo67 | (injection eo67 with ea_ en_ ec_;(first | subst ea_ | (injection ea_ with ea_;subst ea_));subst ec_;clear en_))
           have bx:=Z_ ay
           have GG67:=Z_ HG67
           clear ay gl67 HG67
           (first | simp only [add_plain] at hx213_0 | skip)
           (first | simp only [add_plain] at hx215_0 | skip)
           obtain ⟨hx67_0,hf67_0⟩:=Kd.R_celln false a0.out (x9_3 : Int) p67 q67
           replace p67:=eq_true p67
           replace q67:=eq_true q67
           have HP70:=Kd.R_putg a0.out (x9_3 : Int) false
           go_wp2_with (first | ((with_reducible refine gate_store (t:=4) (p:=97) rfl ?_);refine store_event (t:=4) (p:=97) (v:=?vo_w71) (w1:=(wc.setCell ⟨go67,(x9_3 : Int).toNat,none⟩ (.bool false))) ?hg ?ho ?hn ?hr ?_;(case ho => rfl);(case hg => rfl);(case hn => rfl);(case hr => first | (go_simp;done) | (go_simp;rfl));intro w71 hw;have hg : wc.grownBy w71 (some go67):=(by rw [hw];exact HP70.2);have hp_ : Kd.R Kd.bool 4 w71 w.heap.size (fun k_ => some k_ ≠ (v204 : Value).ownBlock) (.slice (some ⟨go67,0,none⟩) x5_3.length ag) y218:=(by rw [hw,b9.out];exact HP70.1);clear HP70;replace a0:=Z_ (hp_);replace a1:=Z_ (Kd.R_after (v:=(.slice (some ⟨go67,0,none⟩) x5_3.length ag)) (v1:=(.slice (some ⟨go67,0,none⟩) x5_3.length ag)) (ok:=(fun _ => True)) (Kd.R_mono a1.out (fun _ hk => ⟨trivial,hk⟩)) hg (.inl rfl));replace HB:=Z_ ((by rw [hw];exact lS1_ (HB.out) bx.out : Below w.heap.size w w71));clear hg hw hp_))
           go_roundg kj41
           case measure => have:=HK1.out;have:=HK2.out;have:=HK3.out;have:=HJ41.out;omega
           case rel => exact ⟨(y218),(wrap64 (x9_3 + 1)),Sr_,H',⟨by have:=HK1.out;have:=HK2.out;have:=HK3.out;have:=HJ41.out;omega⟩,⟨Rk_ a0⟩,⟨by (with_reducible repeat first | apply rA_ | apply rN_ | apply rD_);exact Kd.R_mono a1.out (fun _ hk => hk.2)⟩,⟨Lb_⟩⟩
          rotate_right
          replace H:=iM_ H
          obtain ⟨c60b0,H⟩:=H
          replace H:=iM_ H
          obtain ⟨c61b0,H⟩:=H
          obtain ⟨y217,hy217⟩ : ∃ y_ : List Bool,y_ = (x5_3.set (x9_3 : Int).toNat (rdOf false x5_3 ((rd_T83 l0 x9_3).f2))):=⟨_,rfl⟩
          replace H : (spec_l6Make.l2 kj41 l0 y217 x7_2 (wrap64 (x9_3 + 1))) = some r:=by first | (rw [hy217];with_reducible exact H) | (have H2_:=(Option.bind_some _ _).symm.trans H;rw [hy217];with_reducible exact H2_) | (have H2_:=(Option.bind_some _ _).symm.trans H;with_reducible exact H2_) | with_reducible exact H | (rw [hy217];exact H) | exact H
          have b8:=Z_ hy217
          clear hy217
          have H':=Z_ H
          clear H
          obtain ⟨cv,af,eo63⟩:=Kd.R_slice a0.out
          subst eo63
          have p213 : 0 ≤ (x9_3 : Int):=dA_
          have q213 : x9_3 < (x5_3.length : Int):=dA_
          obtain ⟨ad213,e213,hx213_0⟩:=Kd.at_bool (Kd.R_reads' a0.out).2.2 x9_3 p213 q213
          (try rw [← Nbq50.out] at hx213_0)
          (try rw [← Nbq58.out] at hx213_0)
          cases e213
          replace p213:=eq_true p213
          replace q213:=eq_true q213
          obtain ⟨_,_,_,_,_,_,_,_⟩:=bc4 a2.out
          have p215 : 0 ≤ (((rd_T83 l0 x9_3).f1) : Int):=dA_
          have q215 : ((rd_T83 l0 x9_3).f1) < (x5_3.length : Int):=dA_
          obtain ⟨ad215,e215,hx215_0⟩:=Kd.at_bool (Kd.R_reads' a0.out).2.2 ((rd_T83 l0 x9_3).f1) p215 q215
          (try rw [← Nbq50.out] at hx215_0)
          (try rw [← Nbq58.out] at hx215_0)
          obtain rfl : ad213 = ad215:=(by injection e215)
          replace p215:=eq_true p215
          replace q215:=eq_true q215
          have p216 : 0 ≤ (((rd_T83 l0 x9_3).f2) : Int):=dA_
          have q216 : ((rd_T83 l0 x9_3).f2) < (x5_3.length : Int):=dA_
          obtain ⟨ad216,e216,hx216_0⟩:=Kd.at_bool (Kd.R_reads' a0.out).2.2 ((rd_T83 l0 x9_3).f2) p216 q216
          (try rw [← Nbq50.out] at hx216_0)
          (try rw [← Nbq58.out] at hx216_0)
          obtain rfl : ad213 = ad216:=(by injection e216)
          replace p216:=eq_true p216
          replace q216:=eq_true q216
          have p62 : 0 ≤ (x9_3 : Int):=dA_
          have q62 : (x9_3 : Int) < ((x5_3.length : Int) : Int):=dA_
          obtain ⟨go62,cw,eo62,ax,gl62,cl62,HG62⟩:=Kd.R_form a0.out (by omega)
          (first | cases eo62 | (injection eo62 with ea_ en_ ec_;(first | subst ea_ | (injection ea_ with ea_;subst ea_));subst ec_;clear en_))
          have bw:=Z_ ax
          have GG62:=Z_ HG62
          clear ax gl62 HG62
          (first | simp only [add_plain] at hx213_0 | skip)
          (first | simp only [add_plain] at hx215_0 | skip)
          (first | simp only [add_plain] at hx216_0 | skip)
          obtain ⟨hx62_0,hf62_0⟩:=Kd.R_celln false a0.out (x9_3 : Int) p62 q62
          replace p62:=eq_true p62
          replace q62:=eq_true q62
          have HP65:=Kd.R_putg a0.out (x9_3 : Int) (rdOf false x5_3 ((rd_T83 l0 x9_3).f2))
          go_wp2_with (first | ((with_reducible refine gate_store (t:=4) (p:=97) rfl ?_);refine store_event (t:=4) (p:=97) (v:=?vo_w66) (w1:=(wc.setCell ⟨go62,(x9_3 : Int).toNat,none⟩ (.bool (rdOf false x5_3 ((rd_T83 l0 x9_3).f2))))) ?hg ?ho ?hn ?hr ?_;(case ho => rfl);(case hg => rfl);(case hn => rfl);(case hr => first | (go_simp;done) | (go_simp;rfl));intro w66 hw;have hg : wc.grownBy w66 (some go62):=(by rw [hw];exact HP65.2);have hp_ : Kd.R Kd.bool 4 w66 w.heap.size (fun k_ => some k_ ≠ (v204 : Value).ownBlock) (.slice (some ⟨go62,0,none⟩) x5_3.length af) y217:=(by rw [hw,b8.out];exact HP65.1);clear HP65;replace a0:=Z_ (hp_);replace a1:=Z_ (Kd.R_after (v:=(.slice (some ⟨go62,0,none⟩) x5_3.length af)) (v1:=(.slice (some ⟨go62,0,none⟩) x5_3.length af)) (ok:=(fun _ => True)) (Kd.R_mono a1.out (fun _ hk => ⟨trivial,hk⟩)) hg (.inl rfl));replace HB:=Z_ ((by rw [hw];exact lS1_ (HB.out) bw.out : Below w.heap.size w w66));clear hg hw hp_))
          go_roundg kj41
          case measure => have:=HK1.out;have:=HK2.out;have:=HK3.out;have:=HJ41.out;omega
          case rel => exact ⟨(y217),(wrap64 (x9_3 + 1)),Sr_,H',⟨by have:=HK1.out;have:=HK2.out;have:=HK3.out;have:=HJ41.out;omega⟩,⟨Rk_ a0⟩,⟨by (with_reducible repeat first | apply rA_ | apply rN_ | apply rD_);exact Kd.R_mono a1.out (fun _ hk => hk.2)⟩,⟨Lb_⟩⟩
         replace H:=iE_ H
         obtain ⟨c72b0,c72b1,H⟩ | ⟨c72b0,c72b1,H⟩:=H
         ·replace H:=iM_ H
          obtain ⟨c73b0,H⟩:=H
          replace H:=iM_ H
          obtain ⟨c74b0,H⟩:=H
          obtain ⟨bq75,hbq75⟩ : ∃ b_ : Bool,b_ = (rdOf false x5_3 x9_3):=⟨_,rfl⟩
          replace H : (if bq75 = true then (spec_l6Make.l2 kj41 l0 (x5_3.set (x9_3 : Int).toNat true) x7_2 (wrap64 (x9_3 + 1))) else (if 0 ≤ ((rd_T83 l0 x9_3).f1) then (if ((rd_T83 l0 x9_3).f1) < (x5_3.length : Int) then (spec_l6Make.l2 kj41 l0 (x5_3.set (x9_3 : Int).toNat (rdOf false x5_3 ((rd_T83 l0 x9_3).f1))) x7_2 (wrap64 (x9_3 + 1))) else (none)) else (none))) = some r:=by rw [← hbq75] at H;exact H
          have Nbq75:=Z_ hbq75
          clear hbq75
          replace H:=iB_ H
          obtain ⟨rfl,H⟩ | ⟨rfl,H⟩:=H
          ·obtain ⟨y220,hy220⟩ : ∃ y_ : List Bool,y_ = (x5_3.set (x9_3 : Int).toNat true):=⟨_,rfl⟩
           replace H : (spec_l6Make.l2 kj41 l0 y220 x7_2 (wrap64 (x9_3 + 1))) = some r:=by first | (rw [hy220];with_reducible exact H) | (have H2_:=(Option.bind_some _ _).symm.trans H;rw [hy220];with_reducible exact H2_) | (have H2_:=(Option.bind_some _ _).symm.trans H;with_reducible exact H2_) | with_reducible exact H | (rw [hy220];exact H) | exact H
           have ba:=Z_ hy220
           clear hy220
           have H':=Z_ H
           clear H
           obtain ⟨cz,ah,eo78⟩:=Kd.R_slice a0.out
           subst eo78
           have p219 : 0 ≤ (x9_3 : Int):=dA_
           have q219 : x9_3 < (x5_3.length : Int):=dA_
           obtain ⟨ad219,e219,hx219_0⟩:=Kd.at_bool (Kd.R_reads' a0.out).2.2 x9_3 p219 q219
           (try rw [← Nbq75.out] at hx219_0)
           cases e219
           replace p219:=eq_true p219
           replace q219:=eq_true q219
           have p77 : 0 ≤ (x9_3 : Int):=dA_
           have q77 : (x9_3 : Int) < ((x5_3.length : Int) : Int):=dA_
           obtain ⟨go77,d0,eo77,az,gl77,cl77,HG77⟩:=Kd.R_form a0.out (by omega)
           (first | cases eo77 | (injection eo77 with ea_ en_ ec_;(first | subst ea_ | (injection ea_ with ea_;subst ea_));subst ec_;clear en_))
           have bz:=Z_ az
           have GG77:=Z_ HG77
           clear az gl77 HG77
           (first | simp only [add_plain] at hx219_0 | skip)
           obtain ⟨hx77_0,hf77_0⟩:=Kd.R_celln false a0.out (x9_3 : Int) p77 q77
           replace p77:=eq_true p77
           replace q77:=eq_true q77
           have HP79:=Kd.R_putg a0.out (x9_3 : Int) true
           go_wp2_with (first | ((with_reducible refine gate_store (t:=4) (p:=113) rfl ?_);refine store_event (t:=4) (p:=113) (v:=?vo_w80) (w1:=(wc.setCell ⟨go77,(x9_3 : Int).toNat,none⟩ (.bool true))) ?hg ?ho ?hn ?hr ?_;(case ho => rfl);(case hg => rfl);(case hn => rfl);(case hr => first | (go_simp;done) | (go_simp;rfl));intro w80 hw;have hg : wc.grownBy w80 (some go77):=(by rw [hw];exact HP79.2);have hp_ : Kd.R Kd.bool 4 w80 w.heap.size (fun k_ => some k_ ≠ (v204 : Value).ownBlock) (.slice (some ⟨go77,0,none⟩) x5_3.length ah) y220:=(by rw [hw,ba.out];exact HP79.1);clear HP79;replace a0:=Z_ (hp_);replace a1:=Z_ (Kd.R_after (v:=(.slice (some ⟨go77,0,none⟩) x5_3.length ah)) (v1:=(.slice (some ⟨go77,0,none⟩) x5_3.length ah)) (ok:=(fun _ => True)) (Kd.R_mono a1.out (fun _ hk => ⟨trivial,hk⟩)) hg (.inl rfl));replace HB:=Z_ ((by rw [hw];exact lS1_ (HB.out) bz.out : Below w.heap.size w w80));clear hg hw hp_))
           go_roundg kj41
           case measure => have:=HK1.out;have:=HK2.out;have:=HK3.out;have:=HJ41.out;omega
           case rel => exact ⟨(y220),(wrap64 (x9_3 + 1)),Sr_,H',⟨by have:=HK1.out;have:=HK2.out;have:=HK3.out;have:=HJ41.out;omega⟩,⟨Rk_ a0⟩,⟨by (with_reducible repeat first | apply rA_ | apply rN_ | apply rD_);exact Kd.R_mono a1.out (fun _ hk => hk.2)⟩,⟨Lb_⟩⟩
          replace H:=iM_ H
          obtain ⟨c81b0,H⟩:=H
          replace H:=iM_ H
          obtain ⟨c82b0,H⟩:=H
          obtain ⟨y222,hy222⟩ : ∃ y_ : List Bool,y_ = (x5_3.set (x9_3 : Int).toNat (rdOf false x5_3 ((rd_T83 l0 x9_3).f1))):=⟨_,rfl⟩
          replace H : (spec_l6Make.l2 kj41 l0 y222 x7_2 (wrap64 (x9_3 + 1))) = some r:=by first | (rw [hy222];with_reducible exact H) | (have H2_:=(Option.bind_some _ _).symm.trans H;rw [hy222];with_reducible exact H2_) | (have H2_:=(Option.bind_some _ _).symm.trans H;with_reducible exact H2_) | with_reducible exact H | (rw [hy222];exact H) | exact H
          have bb:=Z_ hy222
          clear hy222
          have H':=Z_ H
          clear H
          obtain ⟨d1,ai,eo84⟩:=Kd.R_slice a0.out
          subst eo84
          have p219 : 0 ≤ (x9_3 : Int):=dA_
          have q219 : x9_3 < (x5_3.length : Int):=dA_
          obtain ⟨ad219,e219,hx219_0⟩:=Kd.at_bool (Kd.R_reads' a0.out).2.2 x9_3 p219 q219
          (try rw [← Nbq75.out] at hx219_0)
          cases e219
          replace p219:=eq_true p219
          replace q219:=eq_true q219
          obtain ⟨_,_,_,_,_,_,_,_⟩:=bc4 a2.out
          have p221 : 0 ≤ (((rd_T83 l0 x9_3).f1) : Int):=dA_
          have q221 : ((rd_T83 l0 x9_3).f1) < (x5_3.length : Int):=dA_
          obtain ⟨ad221,e221,hx221_0⟩:=Kd.at_bool (Kd.R_reads' a0.out).2.2 ((rd_T83 l0 x9_3).f1) p221 q221
          (try rw [← Nbq75.out] at hx221_0)
          obtain rfl : ad219 = ad221:=(by injection e221)
          replace p221:=eq_true p221
          replace q221:=eq_true q221
          have p83 : 0 ≤ (x9_3 : Int):=dA_
          have q83 : (x9_3 : Int) < ((x5_3.length : Int) : Int):=dA_
          obtain ⟨go83,d2,eo83,b0,gl83,cl83,HG83⟩:=Kd.R_form a0.out (by omega)
          (first | cases eo83 | (injection eo83 with ea_ en_ ec_;(first | subst ea_ | (injection ea_ with ea_;subst ea_));subst ec_;clear en_))
          have c5:=Z_ b0
          have GG83:=Z_ HG83
          clear b0 gl83 HG83
          (first | simp only [add_plain] at hx219_0 | skip)
          (first | simp only [add_plain] at hx221_0 | skip)
          obtain ⟨hx83_0,hf83_0⟩:=Kd.R_celln false a0.out (x9_3 : Int) p83 q83
          replace p83:=eq_true p83
          replace q83:=eq_true q83
          have HP86:=Kd.R_putg a0.out (x9_3 : Int) (rdOf false x5_3 ((rd_T83 l0 x9_3).f1))
          go_wp2_with (first | ((with_reducible refine gate_store (t:=4) (p:=113) rfl ?_);refine store_event (t:=4) (p:=113) (v:=?vo_w87) (w1:=(wc.setCell ⟨go83,(x9_3 : Int).toNat,none⟩ (.bool (rdOf false x5_3 ((rd_T83 l0 x9_3).f1))))) ?hg ?ho ?hn ?hr ?_;(case ho => rfl);(case hg => rfl);(case hn => rfl);(case hr => first | (go_simp;done) | (go_simp;rfl));intro w87 hw;have hg : wc.grownBy w87 (some go83):=(by rw [hw];exact HP86.2);have hp_ : Kd.R Kd.bool 4 w87 w.heap.size (fun k_ => some k_ ≠ (v204 : Value).ownBlock) (.slice (some ⟨go83,0,none⟩) x5_3.length ai) y222:=(by rw [hw,bb.out];exact HP86.1);clear HP86;replace a0:=Z_ (hp_);replace a1:=Z_ (Kd.R_after (v:=(.slice (some ⟨go83,0,none⟩) x5_3.length ai)) (v1:=(.slice (some ⟨go83,0,none⟩) x5_3.length ai)) (ok:=(fun _ => True)) (Kd.R_mono a1.out (fun _ hk => ⟨trivial,hk⟩)) hg (.inl rfl));replace HB:=Z_ ((by rw [hw];exact lS1_ (HB.out) c5.out : Below w.heap.size w w87));clear hg hw hp_))
          go_roundg kj41
          case measure => have:=HK1.out;have:=HK2.out;have:=HK3.out;have:=HJ41.out;omega
          case rel => exact ⟨(y222),(wrap64 (x9_3 + 1)),Sr_,H',⟨by have:=HK1.out;have:=HK2.out;have:=HK3.out;have:=HJ41.out;omega⟩,⟨Rk_ a0⟩,⟨by (with_reducible repeat first | apply rA_ | apply rN_ | apply rD_);exact Kd.R_mono a1.out (fun _ hk => hk.2)⟩,⟨Lb_⟩⟩
         replace H:=iE_ H
         obtain ⟨c88b0,c88b1,H⟩ | ⟨c88b0,c88b1,H⟩:=H
         rotate_left
         ·have H':=Z_ H
          clear H
          go_wp2
          go_roundg kj41
          case measure => have:=HK1.out;have:=HK2.out;have:=HK3.out;have:=HJ41.out;omega
          case rel => exact ⟨(x5_3),(wrap64 (x9_3 + 1)),Sr_,H',⟨by have:=HK1.out;have:=HK2.out;have:=HK3.out;have:=HJ41.out;omega⟩,⟨Rk_ a0⟩,⟨Rk_ a1⟩,⟨Lb_⟩⟩
         rotate_right
         replace H:=iM_ H
         obtain ⟨c89b0,H⟩:=H
         replace H:=iM_ H
         obtain ⟨c90b0,H⟩:=H
         replace H:=iM_ H
         obtain ⟨c91b0,H⟩:=H
         replace H:=iM_ H
         obtain ⟨c92b0,H⟩:=H
         replace H:=iM_ H
         obtain ⟨c93b0,H⟩:=H
         replace H:=iM_ H
         obtain ⟨c94b0,H⟩:=H
         obtain ⟨bq95,hbq95⟩ : ∃ b_ : Bool,b_ = (rdOf false x5_3 x9_3):=⟨_,rfl⟩
         replace H : (if bq95 = true then (spec_l6Make.l2 kj41 l0 (x5_3.set (x9_3 : Int).toNat true) x7_2 (wrap64 (x9_3 + 1))) else (if rdOf false x5_3 ((rd_T83 l0 x9_3).f1) = true then (if rdOf false x5_3 ((rd_T83 l0 x9_3).f2) = true then (spec_l6Make.l2 kj41 l0 (x5_3.set (x9_3 : Int).toNat true) x7_2 (wrap64 (x9_3 + 1))) else (if ((rd_T83 l0 x9_3).f2) < (x7_2.length : Int) then (if rdOf false x7_2 ((rd_T83 l0 x9_3).f2) = true then (spec_l6Make.l2 kj41 l0 (x5_3.set (x9_3 : Int).toNat true) x7_2 (wrap64 (x9_3 + 1))) else (spec_l6Make.l2 kj41 l0 (x5_3.set (x9_3 : Int).toNat false) x7_2 (wrap64 (x9_3 + 1)))) else (none))) else (if rdOf false x5_3 ((rd_T83 l0 x9_3).f2) = true then (if ((rd_T83 l0 x9_3).f1) < (x7_2.length : Int) then (spec_l6Make.l2 kj41 l0 (x5_3.set (x9_3 : Int).toNat (rdOf false x7_2 ((rd_T83 l0 x9_3).f1))) x7_2 (wrap64 (x9_3 + 1))) else (none)) else (spec_l6Make.l2 kj41 l0 (x5_3.set (x9_3 : Int).toNat false) x7_2 (wrap64 (x9_3 + 1)))))) = some r:=by rw [← hbq95] at H;exact H
         have Nbq95:=Z_ hbq95
         clear hbq95
         replace H:=iB_ H
         obtain ⟨rfl,H⟩ | ⟨rfl,H⟩:=H
         ·obtain ⟨y226,hy226⟩ : ∃ y_ : List Bool,y_ = (x5_3.set (x9_3 : Int).toNat true):=⟨_,rfl⟩
          replace H : (spec_l6Make.l2 kj41 l0 y226 x7_2 (wrap64 (x9_3 + 1))) = some r:=by first | (rw [hy226];with_reducible exact H) | (have H2_:=(Option.bind_some _ _).symm.trans H;rw [hy226];with_reducible exact H2_) | (have H2_:=(Option.bind_some _ _).symm.trans H;with_reducible exact H2_) | with_reducible exact H | (rw [hy226];exact H) | exact H
          have bc:=Z_ hy226
          clear hy226
          have H':=Z_ H
          clear H
          obtain ⟨_,_,_,_,_,_,_,_⟩:=bc4 a2.out
          obtain ⟨d3,aj,eo99⟩:=Kd.R_slice a0.out
          subst eo99
          have p223 : 0 ≤ (((rd_T83 l0 x9_3).f1) : Int):=dA_
          have q223 : ((rd_T83 l0 x9_3).f1) < (x5_3.length : Int):=dA_
          obtain ⟨ad223,e223,hx223_0⟩:=Kd.at_bool (Kd.R_reads' a0.out).2.2 ((rd_T83 l0 x9_3).f1) p223 q223
          (try rw [← Nbq95.out] at hx223_0)
          cases e223
          replace p223:=eq_true p223
          replace q223:=eq_true q223
          have p224 : 0 ≤ (((rd_T83 l0 x9_3).f2) : Int):=dA_
          have q224 : ((rd_T83 l0 x9_3).f2) < (x5_3.length : Int):=dA_
          obtain ⟨ad224,e224,hx224_0⟩:=Kd.at_bool (Kd.R_reads' a0.out).2.2 ((rd_T83 l0 x9_3).f2) p224 q224
          (try rw [← Nbq95.out] at hx224_0)
          obtain rfl : ad223 = ad224:=(by injection e224)
          replace p224:=eq_true p224
          replace q224:=eq_true q224
          have p225 : 0 ≤ (x9_3 : Int):=dA_
          have q225 : x9_3 < (x5_3.length : Int):=dA_
          obtain ⟨ad225,e225,hx225_0⟩:=Kd.at_bool (Kd.R_reads' a0.out).2.2 x9_3 p225 q225
          (try rw [← Nbq95.out] at hx225_0)
          obtain rfl : ad223 = ad225:=(by injection e225)
          replace p225:=eq_true p225
          replace q225:=eq_true q225
          have p97 : 0 ≤ (x9_3 : Int):=dA_
          have q97 : (x9_3 : Int) < ((x5_3.length : Int) : Int):=dA_
          obtain ⟨go97,d4,eo97,b1,gl97,cl97,HG97⟩:=Kd.R_form a0.out (by omega)
          (first | cases eo97 | (injection eo97 with ea_ en_ ec_;(first | subst ea_ | (injection ea_ with ea_;subst ea_));subst ec_;clear en_))
          have c6:=Z_ b1
          have GG97:=Z_ HG97
          clear b1 gl97 HG97
          (first | simp only [add_plain] at hx223_0 | skip)
          (first | simp only [add_plain] at hx224_0 | skip)
          (first | simp only [add_plain] at hx225_0 | skip)
          obtain ⟨hx97_0,hf97_0⟩:=Kd.R_celln false a0.out (x9_3 : Int) p97 q97
          replace p97:=eq_true p97
          replace q97:=eq_true q97
          have HP100:=Kd.R_putg a0.out (x9_3 : Int) true
          go_wp2_with (first | ((with_reducible refine gate_store (t:=4) (p:=155) rfl ?_);refine store_event (t:=4) (p:=155) (v:=?vo_w101) (w1:=(wc.setCell ⟨go97,(x9_3 : Int).toNat,none⟩ (.bool true))) ?hg ?ho ?hn ?hr ?_;(case ho => rfl);(case hg => rfl);(case hn => rfl);(case hr => first | (go_simp;done) | (go_simp;rfl));intro w101 hw;have hg : wc.grownBy w101 (some go97):=(by rw [hw];exact HP100.2);have hp_ : Kd.R Kd.bool 4 w101 w.heap.size (fun k_ => some k_ ≠ (v204 : Value).ownBlock) (.slice (some ⟨go97,0,none⟩) x5_3.length aj) y226:=(by rw [hw,bc.out];exact HP100.1);clear HP100;replace a0:=Z_ (hp_);replace a1:=Z_ (Kd.R_after (v:=(.slice (some ⟨go97,0,none⟩) x5_3.length aj)) (v1:=(.slice (some ⟨go97,0,none⟩) x5_3.length aj)) (ok:=(fun _ => True)) (Kd.R_mono a1.out (fun _ hk => ⟨trivial,hk⟩)) hg (.inl rfl));replace HB:=Z_ ((by rw [hw];exact lS1_ (HB.out) c6.out : Below w.heap.size w w101));clear hg hw hp_))
          go_roundg kj41
          case measure => have:=HK1.out;have:=HK2.out;have:=HK3.out;have:=HJ41.out;omega
          case rel => exact ⟨(y226),(wrap64 (x9_3 + 1)),Sr_,H',⟨by have:=HK1.out;have:=HK2.out;have:=HK3.out;have:=HJ41.out;omega⟩,⟨Rk_ a0⟩,⟨by (with_reducible repeat first | apply rA_ | apply rN_ | apply rD_);exact Kd.R_mono a1.out (fun _ hk => hk.2)⟩,⟨Lb_⟩⟩
         obtain ⟨bq102,hbq102⟩ : ∃ b_ : Bool,b_ = (rdOf false x5_3 ((rd_T83 l0 x9_3).f1)):=⟨_,rfl⟩
         replace H : (if bq102 = true then (if rdOf false x5_3 ((rd_T83 l0 x9_3).f2) = true then (spec_l6Make.l2 kj41 l0 (x5_3.set (x9_3 : Int).toNat true) x7_2 (wrap64 (x9_3 + 1))) else (if ((rd_T83 l0 x9_3).f2) < (x7_2.length : Int) then (if rdOf false x7_2 ((rd_T83 l0 x9_3).f2) = true then (spec_l6Make.l2 kj41 l0 (x5_3.set (x9_3 : Int).toNat true) x7_2 (wrap64 (x9_3 + 1))) else (spec_l6Make.l2 kj41 l0 (x5_3.set (x9_3 : Int).toNat false) x7_2 (wrap64 (x9_3 + 1)))) else (none))) else (if rdOf false x5_3 ((rd_T83 l0 x9_3).f2) = true then (if ((rd_T83 l0 x9_3).f1) < (x7_2.length : Int) then (spec_l6Make.l2 kj41 l0 (x5_3.set (x9_3 : Int).toNat (rdOf false x7_2 ((rd_T83 l0 x9_3).f1))) x7_2 (wrap64 (x9_3 + 1))) else (none)) else (spec_l6Make.l2 kj41 l0 (x5_3.set (x9_3 : Int).toNat false) x7_2 (wrap64 (x9_3 + 1))))) = some r:=by rw [← hbq102] at H;exact H
         have Nbq102:=Z_ hbq102
         clear hbq102
         replace H:=iB_ H
         obtain ⟨rfl,H⟩ | ⟨rfl,H⟩:=H
         rotate_left
         ·obtain ⟨bq126,hbq126⟩ : ∃ b_ : Bool,b_ = (rdOf false x5_3 ((rd_T83 l0 x9_3).f2)):=⟨_,rfl⟩
          replace H : (if bq126 = true then (if ((rd_T83 l0 x9_3).f1) < (x7_2.length : Int) then (spec_l6Make.l2 kj41 l0 (x5_3.set (x9_3 : Int).toNat (rdOf false x7_2 ((rd_T83 l0 x9_3).f1))) x7_2 (wrap64 (x9_3 + 1))) else (none)) else (spec_l6Make.l2 kj41 l0 (x5_3.set (x9_3 : Int).toNat false) x7_2 (wrap64 (x9_3 + 1)))) = some r:=by rw [← hbq126] at H;exact H
          have Nbq126:=Z_ hbq126
          clear hbq126
          replace H:=iB_ H
          obtain ⟨rfl,H⟩ | ⟨rfl,H⟩:=H
          rotate_left
          ·obtain ⟨y233,hy233⟩ : ∃ y_ : List Bool,y_ = (x5_3.set (x9_3 : Int).toNat false):=⟨_,rfl⟩
           replace H : (spec_l6Make.l2 kj41 l0 y233 x7_2 (wrap64 (x9_3 + 1))) = some r:=by first | (rw [hy233];with_reducible exact H) | (have H2_:=(Option.bind_some _ _).symm.trans H;rw [hy233];with_reducible exact H2_) | (have H2_:=(Option.bind_some _ _).symm.trans H;with_reducible exact H2_) | with_reducible exact H | (rw [hy233];exact H) | exact H
           have bo:=Z_ hy233
           clear hy233
           have H':=Z_ H
           clear H
           obtain ⟨_,_,_,_,_,_,_,_⟩:=bc4 a2.out
           obtain ⟨cn,aa,eo137⟩:=Kd.R_slice a0.out
           subst eo137
           have p223 : 0 ≤ (((rd_T83 l0 x9_3).f1) : Int):=dA_
           have q223 : ((rd_T83 l0 x9_3).f1) < (x5_3.length : Int):=dA_
           obtain ⟨ad223,e223,hx223_0⟩:=Kd.at_bool (Kd.R_reads' a0.out).2.2 ((rd_T83 l0 x9_3).f1) p223 q223
           (try rw [← Nbq95.out] at hx223_0)
           (try rw [← Nbq102.out] at hx223_0)
           (try rw [← Nbq126.out] at hx223_0)
           cases e223
           replace p223:=eq_true p223
           replace q223:=eq_true q223
           have p224 : 0 ≤ (((rd_T83 l0 x9_3).f2) : Int):=dA_
           have q224 : ((rd_T83 l0 x9_3).f2) < (x5_3.length : Int):=dA_
           obtain ⟨ad224,e224,hx224_0⟩:=Kd.at_bool (Kd.R_reads' a0.out).2.2 ((rd_T83 l0 x9_3).f2) p224 q224
           (try rw [← Nbq95.out] at hx224_0)
           (try rw [← Nbq102.out] at hx224_0)
           (try rw [← Nbq126.out] at hx224_0)
           obtain rfl : ad223 = ad224:=(by injection e224)
           replace p224:=eq_true p224
           replace q224:=eq_true q224
           have p225 : 0 ≤ (x9_3 : Int):=dA_
           have q225 : x9_3 < (x5_3.length : Int):=dA_
           obtain ⟨ad225,e225,hx225_0⟩:=Kd.at_bool (Kd.R_reads' a0.out).2.2 x9_3 p225 q225
           (try rw [← Nbq95.out] at hx225_0)
           (try rw [← Nbq102.out] at hx225_0)
           (try rw [← Nbq126.out] at hx225_0)
           obtain rfl : ad223 = ad225:=(by injection e225)
           replace p225:=eq_true p225
           replace q225:=eq_true q225
           have p135 : 0 ≤ (x9_3 : Int):=dA_
           have q135 : (x9_3 : Int) < ((x5_3.length : Int) : Int):=dA_
           obtain ⟨go135,co,eo135,aq,gl135,cl135,HG135⟩:=Kd.R_form a0.out (by omega)
           (first | cases eo135 | (injection eo135 with ea_ en_ ec_;(first | subst ea_ | (injection ea_ with ea_;subst ea_));subst ec_;clear en_))
           have bp:=Z_ aq
           have GG135:=Z_ HG135
           clear aq gl135 HG135
           (first | simp only [add_plain] at hx223_0 | skip)
           (first | simp only [add_plain] at hx224_0 | skip)
           (first | simp only [add_plain] at hx225_0 | skip)
           obtain ⟨hx135_0,hf135_0⟩:=Kd.R_celln false a0.out (x9_3 : Int) p135 q135
           replace p135:=eq_true p135
           replace q135:=eq_true q135
           have HP138:=Kd.R_putg a0.out (x9_3 : Int) false
           go_wp2_with (first | ((with_reducible refine gate_store (t:=4) (p:=155) rfl ?_);refine store_event (t:=4) (p:=155) (v:=?vo_w139) (w1:=(wc.setCell ⟨go135,(x9_3 : Int).toNat,none⟩ (.bool false))) ?hg ?ho ?hn ?hr ?_;(case ho => rfl);(case hg => rfl);(case hn => rfl);(case hr => first | (go_simp;done) | (go_simp;rfl));intro w139 hw;have hg : wc.grownBy w139 (some go135):=(by rw [hw];exact HP138.2);have hp_ : Kd.R Kd.bool 4 w139 w.heap.size (fun k_ => some k_ ≠ (v204 : Value).ownBlock) (.slice (some ⟨go135,0,none⟩) x5_3.length aa) y233:=(by rw [hw,bo.out];exact HP138.1);clear HP138;replace a0:=Z_ (hp_);replace a1:=Z_ (Kd.R_after (v:=(.slice (some ⟨go135,0,none⟩) x5_3.length aa)) (v1:=(.slice (some ⟨go135,0,none⟩) x5_3.length aa)) (ok:=(fun _ => True)) (Kd.R_mono a1.out (fun _ hk => ⟨trivial,hk⟩)) hg (.inl rfl));replace HB:=Z_ ((by rw [hw];exact lS1_ (HB.out) bp.out : Below w.heap.size w w139));clear hg hw hp_))
           go_roundg kj41
           case measure => have:=HK1.out;have:=HK2.out;have:=HK3.out;have:=HJ41.out;omega
           case rel => exact ⟨(y233),(wrap64 (x9_3 + 1)),Sr_,H',⟨by have:=HK1.out;have:=HK2.out;have:=HK3.out;have:=HJ41.out;omega⟩,⟨Rk_ a0⟩,⟨by (with_reducible repeat first | apply rA_ | apply rN_ | apply rD_);exact Kd.R_mono a1.out (fun _ hk => hk.2)⟩,⟨Lb_⟩⟩
          rotate_right
          replace H:=iM_ H
          obtain ⟨c128b0,H⟩:=H
          obtain ⟨y232,hy232⟩ : ∃ y_ : List Bool,y_ = (x5_3.set (x9_3 : Int).toNat (rdOf false x7_2 ((rd_T83 l0 x9_3).f1))):=⟨_,rfl⟩
          replace H : (spec_l6Make.l2 kj41 l0 y232 x7_2 (wrap64 (x9_3 + 1))) = some r:=by first | (rw [hy232];with_reducible exact H) | (have H2_:=(Option.bind_some _ _).symm.trans H;rw [hy232];with_reducible exact H2_) | (have H2_:=(Option.bind_some _ _).symm.trans H;with_reducible exact H2_) | with_reducible exact H | (rw [hy232];exact H) | exact H
          have bl:=Z_ hy232
          clear hy232
          have H':=Z_ H
          clear H
          obtain ⟨_,_,_,_,_,_,_,_⟩:=bc4 a2.out
          obtain ⟨ck,a9,eo131⟩:=Kd.R_slice a0.out
          subst eo131
          have p223 : 0 ≤ (((rd_T83 l0 x9_3).f1) : Int):=dA_
          have q223 : ((rd_T83 l0 x9_3).f1) < (x5_3.length : Int):=dA_
          obtain ⟨ad223,e223,hx223_0⟩:=Kd.at_bool (Kd.R_reads' a0.out).2.2 ((rd_T83 l0 x9_3).f1) p223 q223
          (try rw [← Nbq95.out] at hx223_0)
          (try rw [← Nbq102.out] at hx223_0)
          (try rw [← Nbq126.out] at hx223_0)
          cases e223
          replace p223:=eq_true p223
          replace q223:=eq_true q223
          have p224 : 0 ≤ (((rd_T83 l0 x9_3).f2) : Int):=dA_
          have q224 : ((rd_T83 l0 x9_3).f2) < (x5_3.length : Int):=dA_
          obtain ⟨ad224,e224,hx224_0⟩:=Kd.at_bool (Kd.R_reads' a0.out).2.2 ((rd_T83 l0 x9_3).f2) p224 q224
          (try rw [← Nbq95.out] at hx224_0)
          (try rw [← Nbq102.out] at hx224_0)
          (try rw [← Nbq126.out] at hx224_0)
          obtain rfl : ad223 = ad224:=(by injection e224)
          replace p224:=eq_true p224
          replace q224:=eq_true q224
          have p225 : 0 ≤ (x9_3 : Int):=dA_
          have q225 : x9_3 < (x5_3.length : Int):=dA_
          obtain ⟨ad225,e225,hx225_0⟩:=Kd.at_bool (Kd.R_reads' a0.out).2.2 x9_3 p225 q225
          (try rw [← Nbq95.out] at hx225_0)
          (try rw [← Nbq102.out] at hx225_0)
          (try rw [← Nbq126.out] at hx225_0)
          obtain rfl : ad223 = ad225:=(by injection e225)
          replace p225:=eq_true p225
          replace q225:=eq_true q225
          obtain ⟨cl,bm,eo132⟩:=Kd.R_slice a1.out
          subst eo132
          have p231 : 0 ≤ (((rd_T83 l0 x9_3).f1) : Int):=dA_
          have q231 : ((rd_T83 l0 x9_3).f1) < (x7_2.length : Int):=dA_
          obtain ⟨ad231,e231,hx231_0⟩:=Kd.at_bool (Kd.R_reads' a1.out).2.2 ((rd_T83 l0 x9_3).f1) p231 q231
          (try rw [← Nbq95.out] at hx231_0)
          (try rw [← Nbq102.out] at hx231_0)
          (try rw [← Nbq126.out] at hx231_0)
          cases e231
          replace p231:=eq_true p231
          replace q231:=eq_true q231
          have p129 : 0 ≤ (x9_3 : Int):=dA_
          have q129 : (x9_3 : Int) < ((x5_3.length : Int) : Int):=dA_
          obtain ⟨go129,cm,eo129,ap,gl129,cl129,HG129⟩:=Kd.R_form a0.out (by omega)
          (first | cases eo129 | (injection eo129 with ea_ en_ ec_;(first | subst ea_ | (injection ea_ with ea_;subst ea_));subst ec_;clear en_))
          have bn:=Z_ ap
          have GG129:=Z_ HG129
          clear ap gl129 HG129
          (first | simp only [add_plain] at hx223_0 | skip)
          (first | simp only [add_plain] at hx224_0 | skip)
          (first | simp only [add_plain] at hx225_0 | skip)
          obtain ⟨hx129_0,hf129_0⟩:=Kd.R_celln false a0.out (x9_3 : Int) p129 q129
          replace p129:=eq_true p129
          replace q129:=eq_true q129
          have HP133:=Kd.R_putg a0.out (x9_3 : Int) (rdOf false x7_2 ((rd_T83 l0 x9_3).f1))
          go_wp2_with (first | ((with_reducible refine gate_store (t:=4) (p:=155) rfl ?_);refine store_event (t:=4) (p:=155) (v:=?vo_w134) (w1:=(wc.setCell ⟨go129,(x9_3 : Int).toNat,none⟩ (.bool (rdOf false x7_2 ((rd_T83 l0 x9_3).f1))))) ?hg ?ho ?hn ?hr ?_;(case ho => rfl);(case hg => rfl);(case hn => rfl);(case hr => first | (go_simp;done) | (go_simp;rfl));intro w134 hw;have hg : wc.grownBy w134 (some go129):=(by rw [hw];exact HP133.2);have hp_ : Kd.R Kd.bool 4 w134 w.heap.size (fun k_ => some k_ ≠ (.slice (some ad231) x7_2.length bm : Value).ownBlock) (.slice (some ⟨go129,0,none⟩) x5_3.length a9) y232:=(by rw [hw,bl.out];exact HP133.1);clear HP133;replace a0:=Z_ (hp_);replace a1:=Z_ (Kd.R_after (v:=(.slice (some ⟨go129,0,none⟩) x5_3.length a9)) (v1:=(.slice (some ⟨go129,0,none⟩) x5_3.length a9)) (ok:=(fun _ => True)) (Kd.R_mono a1.out (fun _ hk => ⟨trivial,hk⟩)) hg (.inl rfl));replace HB:=Z_ ((by rw [hw];exact lS1_ (HB.out) bn.out : Below w.heap.size w w134));clear hg hw hp_))
          go_roundg kj41
          case measure => have:=HK1.out;have:=HK2.out;have:=HK3.out;have:=HJ41.out;omega
          case rel => exact ⟨(y232),(wrap64 (x9_3 + 1)),Sr_,H',⟨by have:=HK1.out;have:=HK2.out;have:=HK3.out;have:=HJ41.out;omega⟩,⟨Rk_ a0⟩,⟨by (with_reducible repeat first | apply rA_ | apply rN_ | apply rD_);exact Kd.R_mono a1.out (fun _ hk => hk.2)⟩,⟨Lb_⟩⟩
         rotate_right
         obtain ⟨bq104,hbq104⟩ : ∃ b_ : Bool,b_ = (rdOf false x5_3 ((rd_T83 l0 x9_3).f2)):=⟨_,rfl⟩
         replace H : (if bq104 = true then (spec_l6Make.l2 kj41 l0 (x5_3.set (x9_3 : Int).toNat true) x7_2 (wrap64 (x9_3 + 1))) else (if ((rd_T83 l0 x9_3).f2) < (x7_2.length : Int) then (if rdOf false x7_2 ((rd_T83 l0 x9_3).f2) = true then (spec_l6Make.l2 kj41 l0 (x5_3.set (x9_3 : Int).toNat true) x7_2 (wrap64 (x9_3 + 1))) else (spec_l6Make.l2 kj41 l0 (x5_3.set (x9_3 : Int).toNat false) x7_2 (wrap64 (x9_3 + 1)))) else (none))) = some r:=by rw [← hbq104] at H;exact H
         have Nbq104:=Z_ hbq104
         clear hbq104
         replace H:=iB_ H
         obtain ⟨rfl,H⟩ | ⟨rfl,H⟩:=H
         ·obtain ⟨y227,hy227⟩ : ∃ y_ : List Bool,y_ = (x5_3.set (x9_3 : Int).toNat true):=⟨_,rfl⟩
          replace H : (spec_l6Make.l2 kj41 l0 y227 x7_2 (wrap64 (x9_3 + 1))) = some r:=by first | (rw [hy227];with_reducible exact H) | (have H2_:=(Option.bind_some _ _).symm.trans H;rw [hy227];with_reducible exact H2_) | (have H2_:=(Option.bind_some _ _).symm.trans H;with_reducible exact H2_) | with_reducible exact H | (rw [hy227];exact H) | exact H
          have bd:=Z_ hy227
          clear hy227
          have H':=Z_ H
          clear H
          obtain ⟨_,_,_,_,_,_,_,_⟩:=bc4 a2.out
          obtain ⟨cc,a6,eo108⟩:=Kd.R_slice a0.out
          subst eo108
          have p223 : 0 ≤ (((rd_T83 l0 x9_3).f1) : Int):=dA_
          have q223 : ((rd_T83 l0 x9_3).f1) < (x5_3.length : Int):=dA_
          obtain ⟨ad223,e223,hx223_0⟩:=Kd.at_bool (Kd.R_reads' a0.out).2.2 ((rd_T83 l0 x9_3).f1) p223 q223
          (try rw [← Nbq95.out] at hx223_0)
          (try rw [← Nbq102.out] at hx223_0)
          (try rw [← Nbq104.out] at hx223_0)
          cases e223
          replace p223:=eq_true p223
          replace q223:=eq_true q223
          have p224 : 0 ≤ (((rd_T83 l0 x9_3).f2) : Int):=dA_
          have q224 : ((rd_T83 l0 x9_3).f2) < (x5_3.length : Int):=dA_
          obtain ⟨ad224,e224,hx224_0⟩:=Kd.at_bool (Kd.R_reads' a0.out).2.2 ((rd_T83 l0 x9_3).f2) p224 q224
          (try rw [← Nbq95.out] at hx224_0)
          (try rw [← Nbq102.out] at hx224_0)
          (try rw [← Nbq104.out] at hx224_0)
          obtain rfl : ad223 = ad224:=(by injection e224)
          replace p224:=eq_true p224
          replace q224:=eq_true q224
          have p225 : 0 ≤ (x9_3 : Int):=dA_
          have q225 : x9_3 < (x5_3.length : Int):=dA_
          obtain ⟨ad225,e225,hx225_0⟩:=Kd.at_bool (Kd.R_reads' a0.out).2.2 x9_3 p225 q225
          (try rw [← Nbq95.out] at hx225_0)
          (try rw [← Nbq102.out] at hx225_0)
          (try rw [← Nbq104.out] at hx225_0)
          obtain rfl : ad223 = ad225:=(by injection e225)
          replace p225:=eq_true p225
          replace q225:=eq_true q225
          have p106 : 0 ≤ (x9_3 : Int):=dA_
          have q106 : (x9_3 : Int) < ((x5_3.length : Int) : Int):=dA_
          obtain ⟨go106,cd,eo106,am,gl106,cl106,HG106⟩:=Kd.R_form a0.out (by omega)
          (first | cases eo106 | (injection eo106 with ea_ en_ ec_;(first | subst ea_ | (injection ea_ with ea_;subst ea_));subst ec_;clear en_))
          have be:=Z_ am
          have GG106:=Z_ HG106
          clear am gl106 HG106
          (first | simp only [add_plain] at hx223_0 | skip)
          (first | simp only [add_plain] at hx224_0 | skip)
          (first | simp only [add_plain] at hx225_0 | skip)
          obtain ⟨hx106_0,hf106_0⟩:=Kd.R_celln false a0.out (x9_3 : Int) p106 q106
          replace p106:=eq_true p106
          replace q106:=eq_true q106
          have HP109:=Kd.R_putg a0.out (x9_3 : Int) true
          go_wp2_with (first | ((with_reducible refine gate_store (t:=4) (p:=155) rfl ?_);refine store_event (t:=4) (p:=155) (v:=?vo_w110) (w1:=(wc.setCell ⟨go106,(x9_3 : Int).toNat,none⟩ (.bool true))) ?hg ?ho ?hn ?hr ?_;(case ho => rfl);(case hg => rfl);(case hn => rfl);(case hr => first | (go_simp;done) | (go_simp;rfl));intro w110 hw;have hg : wc.grownBy w110 (some go106):=(by rw [hw];exact HP109.2);have hp_ : Kd.R Kd.bool 4 w110 w.heap.size (fun k_ => some k_ ≠ (v204 : Value).ownBlock) (.slice (some ⟨go106,0,none⟩) x5_3.length a6) y227:=(by rw [hw,bd.out];exact HP109.1);clear HP109;replace a0:=Z_ (hp_);replace a1:=Z_ (Kd.R_after (v:=(.slice (some ⟨go106,0,none⟩) x5_3.length a6)) (v1:=(.slice (some ⟨go106,0,none⟩) x5_3.length a6)) (ok:=(fun _ => True)) (Kd.R_mono a1.out (fun _ hk => ⟨trivial,hk⟩)) hg (.inl rfl));replace HB:=Z_ ((by rw [hw];exact lS1_ (HB.out) be.out : Below w.heap.size w w110));clear hg hw hp_))
          go_roundg kj41
          case measure => have:=HK1.out;have:=HK2.out;have:=HK3.out;have:=HJ41.out;omega
          case rel => exact ⟨(y227),(wrap64 (x9_3 + 1)),Sr_,H',⟨by have:=HK1.out;have:=HK2.out;have:=HK3.out;have:=HJ41.out;omega⟩,⟨Rk_ a0⟩,⟨by (with_reducible repeat first | apply rA_ | apply rN_ | apply rD_);exact Kd.R_mono a1.out (fun _ hk => hk.2)⟩,⟨Lb_⟩⟩
         replace H:=iM_ H
         obtain ⟨c111b0,H⟩:=H
         obtain ⟨bq112,hbq112⟩ : ∃ b_ : Bool,b_ = (rdOf false x7_2 ((rd_T83 l0 x9_3).f2)):=⟨_,rfl⟩
         replace H : (if bq112 = true then (spec_l6Make.l2 kj41 l0 (x5_3.set (x9_3 : Int).toNat true) x7_2 (wrap64 (x9_3 + 1))) else (spec_l6Make.l2 kj41 l0 (x5_3.set (x9_3 : Int).toNat false) x7_2 (wrap64 (x9_3 + 1)))) = some r:=by rw [← hbq112] at H;exact H
         have Nbq112:=Z_ hbq112
         clear hbq112
         replace H:=iB_ H
         obtain ⟨rfl,H⟩ | ⟨rfl,H⟩:=H
         rotate_left
         ·obtain ⟨y230,hy230⟩ : ∃ y_ : List Bool,y_ = (x5_3.set (x9_3 : Int).toNat false):=⟨_,rfl⟩
          replace H : (spec_l6Make.l2 kj41 l0 y230 x7_2 (wrap64 (x9_3 + 1))) = some r:=by first | (rw [hy230];with_reducible exact H) | (have H2_:=(Option.bind_some _ _).symm.trans H;rw [hy230];with_reducible exact H2_) | (have H2_:=(Option.bind_some _ _).symm.trans H;with_reducible exact H2_) | with_reducible exact H | (rw [hy230];exact H) | exact H
          have bi:=Z_ hy230
          clear hy230
          have H':=Z_ H
          clear H
          obtain ⟨_,_,_,_,_,_,_,_⟩:=bc4 a2.out
          obtain ⟨ch,a8,eo122⟩:=Kd.R_slice a0.out
          subst eo122
          have p223 : 0 ≤ (((rd_T83 l0 x9_3).f1) : Int):=dA_
          have q223 : ((rd_T83 l0 x9_3).f1) < (x5_3.length : Int):=dA_
          obtain ⟨ad223,e223,hx223_0⟩:=Kd.at_bool (Kd.R_reads' a0.out).2.2 ((rd_T83 l0 x9_3).f1) p223 q223
          (try rw [← Nbq95.out] at hx223_0)
          (try rw [← Nbq102.out] at hx223_0)
          (try rw [← Nbq104.out] at hx223_0)
          (try rw [← Nbq112.out] at hx223_0)
          cases e223
          replace p223:=eq_true p223
          replace q223:=eq_true q223
          have p224 : 0 ≤ (((rd_T83 l0 x9_3).f2) : Int):=dA_
          have q224 : ((rd_T83 l0 x9_3).f2) < (x5_3.length : Int):=dA_
          obtain ⟨ad224,e224,hx224_0⟩:=Kd.at_bool (Kd.R_reads' a0.out).2.2 ((rd_T83 l0 x9_3).f2) p224 q224
          (try rw [← Nbq95.out] at hx224_0)
          (try rw [← Nbq102.out] at hx224_0)
          (try rw [← Nbq104.out] at hx224_0)
          (try rw [← Nbq112.out] at hx224_0)
          obtain rfl : ad223 = ad224:=(by injection e224)
          replace p224:=eq_true p224
          replace q224:=eq_true q224
          have p225 : 0 ≤ (x9_3 : Int):=dA_
          have q225 : x9_3 < (x5_3.length : Int):=dA_
          obtain ⟨ad225,e225,hx225_0⟩:=Kd.at_bool (Kd.R_reads' a0.out).2.2 x9_3 p225 q225
          (try rw [← Nbq95.out] at hx225_0)
          (try rw [← Nbq102.out] at hx225_0)
          (try rw [← Nbq104.out] at hx225_0)
          (try rw [← Nbq112.out] at hx225_0)
          obtain rfl : ad223 = ad225:=(by injection e225)
          replace p225:=eq_true p225
          replace q225:=eq_true q225
          obtain ⟨ci,bj,eo123⟩:=Kd.R_slice a1.out
          subst eo123
          have p228 : 0 ≤ (((rd_T83 l0 x9_3).f2) : Int):=dA_
          have q228 : ((rd_T83 l0 x9_3).f2) < (x7_2.length : Int):=dA_
          obtain ⟨ad228,e228,hx228_0⟩:=Kd.at_bool (Kd.R_reads' a1.out).2.2 ((rd_T83 l0 x9_3).f2) p228 q228
          (try rw [← Nbq95.out] at hx228_0)
          (try rw [← Nbq102.out] at hx228_0)
          (try rw [← Nbq104.out] at hx228_0)
          (try rw [← Nbq112.out] at hx228_0)
          cases e228
          replace p228:=eq_true p228
          replace q228:=eq_true q228
          have p120 : 0 ≤ (x9_3 : Int):=dA_
          have q120 : (x9_3 : Int) < ((x5_3.length : Int) : Int):=dA_
          obtain ⟨go120,cj,eo120,ao,gl120,cl120,HG120⟩:=Kd.R_form a0.out (by omega)
          (first | cases eo120 | (injection eo120 with ea_ en_ ec_;(first | subst ea_ | (injection ea_ with ea_;subst ea_));subst ec_;clear en_))
          have bk:=Z_ ao
          have GG120:=Z_ HG120
          clear ao gl120 HG120
          (first | simp only [add_plain] at hx223_0 | skip)
          (first | simp only [add_plain] at hx224_0 | skip)
          (first | simp only [add_plain] at hx225_0 | skip)
          obtain ⟨hx120_0,hf120_0⟩:=Kd.R_celln false a0.out (x9_3 : Int) p120 q120
          replace p120:=eq_true p120
          replace q120:=eq_true q120
          have HP124:=Kd.R_putg a0.out (x9_3 : Int) false
          go_wp2_with (first | ((with_reducible refine gate_store (t:=4) (p:=155) rfl ?_);refine store_event (t:=4) (p:=155) (v:=?vo_w125) (w1:=(wc.setCell ⟨go120,(x9_3 : Int).toNat,none⟩ (.bool false))) ?hg ?ho ?hn ?hr ?_;(case ho => rfl);(case hg => rfl);(case hn => rfl);(case hr => first | (go_simp;done) | (go_simp;rfl));intro w125 hw;have hg : wc.grownBy w125 (some go120):=(by rw [hw];exact HP124.2);have hp_ : Kd.R Kd.bool 4 w125 w.heap.size (fun k_ => some k_ ≠ (.slice (some ad228) x7_2.length bj : Value).ownBlock) (.slice (some ⟨go120,0,none⟩) x5_3.length a8) y230:=(by rw [hw,bi.out];exact HP124.1);clear HP124;replace a0:=Z_ (hp_);replace a1:=Z_ (Kd.R_after (v:=(.slice (some ⟨go120,0,none⟩) x5_3.length a8)) (v1:=(.slice (some ⟨go120,0,none⟩) x5_3.length a8)) (ok:=(fun _ => True)) (Kd.R_mono a1.out (fun _ hk => ⟨trivial,hk⟩)) hg (.inl rfl));replace HB:=Z_ ((by rw [hw];exact lS1_ (HB.out) bk.out : Below w.heap.size w w125));clear hg hw hp_))
          go_roundg kj41
          case measure => have:=HK1.out;have:=HK2.out;have:=HK3.out;have:=HJ41.out;omega
          case rel => exact ⟨(y230),(wrap64 (x9_3 + 1)),Sr_,H',⟨by have:=HK1.out;have:=HK2.out;have:=HK3.out;have:=HJ41.out;omega⟩,⟨Rk_ a0⟩,⟨by (with_reducible repeat first | apply rA_ | apply rN_ | apply rD_);exact Kd.R_mono a1.out (fun _ hk => hk.2)⟩,⟨Lb_⟩⟩
         rotate_right
         obtain ⟨y229,hy229⟩ : ∃ y_ : List Bool,y_ = (x5_3.set (x9_3 : Int).toNat true):=⟨_,rfl⟩
         replace H : (spec_l6Make.l2 kj41 l0 y229 x7_2 (wrap64 (x9_3 + 1))) = some r:=by first | (rw [hy229];with_reducible exact H) | (have H2_:=(Option.bind_some _ _).symm.trans H;rw [hy229];with_reducible exact H2_) | (have H2_:=(Option.bind_some _ _).symm.trans H;with_reducible exact H2_) | with_reducible exact H | (rw [hy229];exact H) | exact H
         have bf:=Z_ hy229
         clear hy229
         have H':=Z_ H
         clear H
         obtain ⟨_,_,_,_,_,_,_,_⟩:=bc4 a2.out
         obtain ⟨ce,a7,eo116⟩:=Kd.R_slice a0.out
         subst eo116
         have p223 : 0 ≤ (((rd_T83 l0 x9_3).f1) : Int):=dA_
         have q223 : ((rd_T83 l0 x9_3).f1) < (x5_3.length : Int):=dA_
         obtain ⟨ad223,e223,hx223_0⟩:=Kd.at_bool (Kd.R_reads' a0.out).2.2 ((rd_T83 l0 x9_3).f1) p223 q223
         (try rw [← Nbq95.out] at hx223_0)
         (try rw [← Nbq102.out] at hx223_0)
         (try rw [← Nbq104.out] at hx223_0)
         (try rw [← Nbq112.out] at hx223_0)
         cases e223
         replace p223:=eq_true p223
         replace q223:=eq_true q223
         have p224 : 0 ≤ (((rd_T83 l0 x9_3).f2) : Int):=dA_
         have q224 : ((rd_T83 l0 x9_3).f2) < (x5_3.length : Int):=dA_
         obtain ⟨ad224,e224,hx224_0⟩:=Kd.at_bool (Kd.R_reads' a0.out).2.2 ((rd_T83 l0 x9_3).f2) p224 q224
         (try rw [← Nbq95.out] at hx224_0)
         (try rw [← Nbq102.out] at hx224_0)
         (try rw [← Nbq104.out] at hx224_0)
         (try rw [← Nbq112.out] at hx224_0)
         obtain rfl : ad223 = ad224:=(by injection e224)
         replace p224:=eq_true p224
         replace q224:=eq_true q224
         have p225 : 0 ≤ (x9_3 : Int):=dA_
         have q225 : x9_3 < (x5_3.length : Int):=dA_
         obtain ⟨ad225,e225,hx225_0⟩:=Kd.at_bool (Kd.R_reads' a0.out).2.2 x9_3 p225 q225
         (try rw [← Nbq95.out] at hx225_0)
         (try rw [← Nbq102.out] at hx225_0)
         (try rw [← Nbq104.out] at hx225_0)
         (try rw [← Nbq112.out] at hx225_0)
         obtain rfl : ad223 = ad225:=(by injection e225)
         replace p225:=eq_true p225
         replace q225:=eq_true q225
         obtain ⟨cf,bg,eo117⟩:=Kd.R_slice a1.out
         subst eo117
         have p228 : 0 ≤ (((rd_T83 l0 x9_3).f2) : Int):=dA_
         have q228 : ((rd_T83 l0 x9_3).f2) < (x7_2.length : Int):=dA_
         obtain ⟨ad228,e228,hx228_0⟩:=Kd.at_bool (Kd.R_reads' a1.out).2.2 ((rd_T83 l0 x9_3).f2) p228 q228
         (try rw [← Nbq95.out] at hx228_0)
         (try rw [← Nbq102.out] at hx228_0)
         (try rw [← Nbq104.out] at hx228_0)
         (try rw [← Nbq112.out] at hx228_0)
         cases e228
         replace p228:=eq_true p228
         replace q228:=eq_true q228
         have p114 : 0 ≤ (x9_3 : Int):=dA_
         have q114 : (x9_3 : Int) < ((x5_3.length : Int) : Int):=dA_
         obtain ⟨go114,cg,eo114,an,gl114,cl114,HG114⟩:=Kd.R_form a0.out (by omega)
         (first | cases eo114 | (injection eo114 with ea_ en_ ec_;(first | subst ea_ | (injection ea_ with ea_;subst ea_));subst ec_;clear en_))
         have bh:=Z_ an
         have GG114:=Z_ HG114
         clear an gl114 HG114
         (first | simp only [add_plain] at hx223_0 | skip)
         (first | simp only [add_plain] at hx224_0 | skip)
         (first | simp only [add_plain] at hx225_0 | skip)
         obtain ⟨hx114_0,hf114_0⟩:=Kd.R_celln false a0.out (x9_3 : Int) p114 q114
         replace p114:=eq_true p114
         replace q114:=eq_true q114
         have HP118:=Kd.R_putg a0.out (x9_3 : Int) true
         go_wp2_with (first | ((with_reducible refine gate_store (t:=4) (p:=155) rfl ?_);refine store_event (t:=4) (p:=155) (v:=?vo_w119) (w1:=(wc.setCell ⟨go114,(x9_3 : Int).toNat,none⟩ (.bool true))) ?hg ?ho ?hn ?hr ?_;(case ho => rfl);(case hg => rfl);(case hn => rfl);(case hr => first | (go_simp;done) | (go_simp;rfl));intro w119 hw;have hg : wc.grownBy w119 (some go114):=(by rw [hw];exact HP118.2);have hp_ : Kd.R Kd.bool 4 w119 w.heap.size (fun k_ => some k_ ≠ (.slice (some ad228) x7_2.length bg : Value).ownBlock) (.slice (some ⟨go114,0,none⟩) x5_3.length a7) y229:=(by rw [hw,bf.out];exact HP118.1);clear HP118;replace a0:=Z_ (hp_);replace a1:=Z_ (Kd.R_after (v:=(.slice (some ⟨go114,0,none⟩) x5_3.length a7)) (v1:=(.slice (some ⟨go114,0,none⟩) x5_3.length a7)) (ok:=(fun _ => True)) (Kd.R_mono a1.out (fun _ hk => ⟨trivial,hk⟩)) hg (.inl rfl));replace HB:=Z_ ((by rw [hw];exact lS1_ (HB.out) bh.out : Below w.heap.size w w119));clear hg hw hp_))
         go_roundg kj41
         case measure => have:=HK1.out;have:=HK2.out;have:=HK3.out;have:=HJ41.out;omega
         case rel => exact ⟨(y229),(wrap64 (x9_3 + 1)),Sr_,H',⟨by have:=HK1.out;have:=HK2.out;have:=HK3.out;have:=HJ41.out;omega⟩,⟨Rk_ a0⟩,⟨by (with_reducible repeat first | apply rA_ | apply rN_ | apply rD_);exact Kd.R_mono a1.out (fun _ hk => hk.2)⟩,⟨Lb_⟩⟩
def oxT (l : List S83) (can : List Bool) (next : List Int) (p : Int) : Option (List Int) :=
  if 0 ≤ p ∧ p < (l.length : Int) then (if (rd_T83 l p).f0 = 3 then (spec_l1Rise.f next (rd_T83 l p).f1).bind fun n => spec_l1Rise.f n (rd_T83 l p).f2 else if (rd_T83 l p).f0 = 5 then (if 0 ≤ (rd_T83 l p).f1 ∧ (rd_T83 l p).f1 < (can.length : Int) then (if can.getD (rd_T83 l p).f1.toNat false = true then spec_l1Rise.f next (rd_T83 l p).f2 else some next) else none) else some next) else none
def oxL (l : List S83) (can : List Bool) : List Int → List Int → Option (List Int)
  | [],next => some next
  | p :: ps,next => (oxT l can next p).bind (oxL l can ps)
def oxO (K : Nat) (l : List S83) : Nat → List Int → Option (List Int)
  | 0,_ => none
  | k + 1,out => (spec_l6Make.f K l out).bind fun can => if out.length ≤ 100000 then (oxL l can out out).bind fun next => if next.length = out.length then some out else oxO K l k next else none
def spec_l6Open.f (k : Nat) (l0 : List S83) (l1 : List Int) : Option (List Int):=if l1.length ≤ 100000 then oxO k l0 k l1 else none
theorem rdi_get (l : List Int) (kk : Nat) (h : kk < l.length) : l.drop kk = rd l (kk : Int) :: l.drop (kk + 1):=by
  rw [List.drop_eq_getElem_cons h]
  simp [rd,List.getD,List.getElem?_eq_getElem h]
set_option maxHeartbeats 8000000 in
set_option maxRecDepth 100000 in
theorem spec_l6Open.calls (k : Nat) (A0 : Option Addr) (c0 : Nat) (l0 : List S83) (A1 : Option Addr) (c1 : Nat) (l1 r : List Int) (w : World) (hr0 : Kd.C k83 w A0 l0.length l0) (hc0 : l0.length ≤ c0) (hr1 : Kd.C (Kd.int .i64) w A1 l1.length l1) (hc1 : l1.length ≤ c1) (h : spec_l6Open.f k l0 l1 = some r) :
    Calls Tryz.prog 78 #[.slice A0 l0.length c0,.slice A1 l1.length c1] w fun e w' => ∃ v : Value,e = .returned v ∧ Kd.R (Kd.int .i64) 2 w' w.heap.size (fun _ => True) v r ∧ Below w.heap.size w w':=by
 have hu1:=Tryz.underlying83
 have hu2:=Tryz.underlying24
 have hu3:=Tryz.underlying57
 have hu4:=Tryz.underlying30
 have a5:=Z_ hr0
 have a6:=Z_ hc0
 have a7:=Z_ hr1
 have a8:=Z_ hc1
 have HN0:=Z_ hr0.2.1
 clear hr0 hc0 hr1 hc1
 have HB:=Z_ (Below.refl w.heap.size w)
 unfold spec_l6Open.f at h
 replace h:=iN_ h
 obtain ⟨hl0,h⟩:=h
 have HL0:=Z_ hl0
 have H':=Z_ h
 clear hl0 h
 go_enter Tryz.func78,Tryz.ntmps78
 go_wp2_with (first | ((with_reducible refine gD_ 10 rfl ?_);refine Kd.R_lit (Kd.int .i64) (w0:=w) w.heap.size 2 rfl (N:=10) rfl (xs:=([] : List Int)) (inner:=[]) (ok:=fun _ => True) (okp:=fun _ => True) (by first | (go_simp;done) | (go_simp;rfl)) (repsR _) (fun _ hk => hk) trivial HB.out (below_size HB.out) (by simp) ?_;intro v10 w10 ho hb hg hat;have HO:=Z_ ho;replace HB:=Z_ hb;clear ho hb hg hat) | ((with_reducible refine gate_builtin (b:=.append) (xs:=#[.tmp 10,.tmp 11]) rfl ?_);at_builtin;refine Kd.R_append_rows (Kd.int .i64) (w0:=w) w.heap.size rfl (.tmp 10) (.tmp 11) 24 2 (.int .i64 0) 8 rfl Tryz.underlying24 info2 rfl (by decide) (by omega) v10 [] l1 A1 l1.length c1 (fun _ => True) (fun _ => False) rfl rfl HO.out (Kd.C_below a7.out HB.out) (fun _ _ h => h) (fun _ h => h.elim) (fun _ _ => trivial) HB.out (below_size HB.out) (by have:=HL0.out;simp;omega) ?_;intro v5 w11 ho hb hg hat;clear HO;have HO:=Z_ (show Kd.R (Kd.int .i64) 2 w11 w.heap.size (fun _ => True) v5 l1 by simpa using ho);replace HB:=Z_ hb;clear ho hb hg hat))
 go_loopg [5] k (fun gg v5 wr => ∃ out : List Int,Aside0 (oxO k l0 gg out = some r) ∧ Aside0 (Kd.R (Kd.int .i64) 2 wr w.heap.size (fun _ => True) v5 out) ∧ Aside0 (Below w.heap.size w wr))
 case atStart => exact ⟨l1,H',HO,HB⟩
 case round =>
  clear H' HO HB HL0
  obtain ⟨out,H,HO,HB⟩:=hrel
  cases gk with
  | zero => exact absurd H.out (by simp [oxO])
  | succ k1 =>
   have h:=H.out
   clear H
   unfold oxO at h
   replace h:=bS_ h
   obtain ⟨can,HM,h⟩:=h
   replace h:=iN_ h
   obtain ⟨hlo,h⟩:=h
   replace h:=bS_ h
   obtain ⟨next,HX,h⟩:=h
   have HLO:=Z_ hlo
   have H':=Z_ h
   clear hlo h
   obtain ⟨A5,c5,e5⟩:=Kd.R_slice HO.out
   subst e5
   go_wp2_with (first | (go_at_call 77;refine (spec_l6Make.calls k A0 c0 l0 A5 c5 out can _ (Kd.C_below a5.out Lb_) a6.out (Kd.R_reads' (Rk_ HO)).2.2 (Kd.R_reads' HO.out).2.1 HM.out).mono ?_;rintro e w15 ⟨v6,rfl,ho,hb⟩;have HC:=Z_ (Kd.R_lower ho (below_size Lb_));replace HO:=Z_ (Kd.R_below (Rk_ HO) hb);replace HB:=Z_ (lP_ Lb_ hb);clear ho hb;obtain ⟨A6,c6,e6⟩:=Kd.R_slice HC.out;subst e6))
   have HX':=Z_ (show oxL l0 can (out.drop 0) out = some next from HX.out)
   clear HX
   go_loopg [7,8] out.length (fun gg v7 v8 wr => ∃ (kk : Nat) (nx : List Int),kk ≤ out.length ∧ out.length - kk ≤ gg ∧ v8 = .int .i64 kk ∧ Aside0 (Kd.R (Kd.int .i64) 2 wr w.heap.size (fun _ => True) v7 nx) ∧ Aside0 (Kd.R (Kd.int .i64) 2 wr w.heap.size (fun _ => True) (.slice A5 out.length c5) out) ∧ Aside0 (Kd.bool.R 4 wr w.heap.size (fun _ => True) (.slice A6 can.length c6) can) ∧ Aside0 (Below w.heap.size w wr) ∧ Aside0 (oxL l0 can (out.drop kk) nx = some next))
   case atStart => exact ⟨0,out,Nat.zero_le _,by omega,rfl,HO,HO,HC,HB,HX'⟩
   case round =>
    clear HX' HO HB HC
    obtain ⟨kk,nx,hkn,hgg,rfl,HX,HO,HC,HB,HXX⟩:=hrel
    by_cases hlt : kk < out.length
    rotate_left
    ·have hltz : ¬ (kk : Int) < (out.length : Int):=by omega
     obtain rfl : kk = out.length:=by omega
     have h:=HXX.out
     rw [List.drop_length] at h
     obtain rfl:=Option.some.inj h
     clear h HXX
     have h:=H'.out
     clear H'
     obtain ⟨A7,c7,e7⟩:=Kd.R_slice HX.out
     subst e7
     by_cases hq : nx.length = out.length
     ·rw [if_pos hq] at h
      obtain rfl:=Option.some.inj h
      clear h
      have hqz : ((nx.length : Int) == (out.length : Int)) = true:=by simp [hq]
      have hqn : decide ((nx.length : Int) = (out.length : Int)) = true:=by simp [hq]
      have hqm : decide (nx.length = out.length) = true:=by simp [hq]
      have HQ:=Z_ hq
      clear hq
      go_wp2
      go_ret
      exact ⟨_,rfl,Rk_ HO,Lb_⟩
     ·rw [if_neg hq] at h
      have H':=Z_ h
      clear h
      have hqz : ((nx.length : Int) == (out.length : Int)) = false:=by simp;omega
      have hqn : decide ((nx.length : Int) = (out.length : Int)) = false:=by simp;omega
      have hqm : decide (nx.length = out.length) = false:=by simp;omega
      clear hq
      go_wp2
      go_roundg k1
      case measure => omega
      case rel => exact ⟨nx,H',⟨Rk_ HX⟩,⟨Lb_⟩⟩
    have hltz : (kk : Int) < (out.length : Int):=by omega
    have h:=HXX.out
    clear HXX
    rw [rdi_get out kk hlt] at h
    unfold oxL at h
    replace h:=bS_ h
    obtain ⟨nx2,HT,h⟩:=h
    have HXX:=Z_ h
    clear h
    obtain ⟨ad5,ea5,hy5⟩:=Kd.at_int (Kd.R_reads' HO.out).2.2 (kk : Int) (by omega) (by omega)
    subst ea5
    rw [Int.toNat_natCast] at hy5
    have h:=HT.out
    clear HT
    unfold oxT at h
    generalize rd out (kk : Int) = p at hy5 h
    replace h:=iN_ h
    obtain ⟨⟨hp0,hp1⟩,h⟩:=h
    obtain ⟨ad,e,hy0,hy1,hy2,hy3⟩:=at_T83 a5.out p hp0 hp1
    subst e
    generalize rd_T83 l0 p = x at hy0 hy1 hy2 hy3 h
    have HY:=Z_ (And.intro hy0 (And.intro hy1 (And.intro hy2 hy3)))
    have HT:=Z_ h
    clear h
    have HY5:=Z_ hy5
    replace hy0:=cB_ HB hy0
    replace hy1:=cB_ HB hy1
    replace hy2:=cB_ HB hy2
    replace hy3:=cB_ HB hy3
    go_upto_region 8 with (go_big_may;first | ((with_reducible refine gD_ 9 rfl ?_);refine bx_ #[.int .i64 0,.int .i64 0,.int .i64 0,.int .i64 0] 83 ?_;intro g9 hg w3 hbox hb;have a4:=Z_ (show w.heap.size ≤ g9 by rw [hg];exact below_size HB.out);replace HX:=Z_ (Kd.R_below HX.out hb);replace HO:=Z_ (Kd.R_below HO.out hb);replace HC:=Z_ (Kd.R_below HC.out hb);replace HB:=Z_ (lP_ HB.out hb);have BK:=Z_ hbox;clear hb hbox hg hy0 hy1 hy2 hy3 hy5;have hy0:=cB_ HB HY.out.1;have hy1:=cB_ HB HY.out.2.1;have hy2:=cB_ HB HY.out.2.2.1;have hy3:=cB_ HB HY.out.2.2.2;obtain ⟨_,_,_,_,_,_,_,_⟩:=bc4H BK.out))
    (try simp only [Act.put,lA_,lZ_,lS_])
    have n0_:=Z_ (blk_put (blk_put (blk_put (blk_put BK.out 0 (.int .i64 x.f0) rfl) 1 (.int .i64 x.f1) rfl) 2 (.int .i64 x.f2) rfl) 3 (.int .i64 x.f3) rfl)
    replace HX:=Z_ (R_set4 (a0:=.int .i64 x.f0) (a1:=.int .i64 x.f1) (a2:=.int .i64 x.f2) (a3:=.int .i64 x.f3) HX.out BK.out (by decide))
    replace HO:=Z_ (R_set4 (a0:=.int .i64 x.f0) (a1:=.int .i64 x.f1) (a2:=.int .i64 x.f2) (a3:=.int .i64 x.f3) HO.out BK.out (by decide))
    replace HC:=Z_ (R_set4 (a0:=.int .i64 x.f0) (a1:=.int .i64 x.f1) (a2:=.int .i64 x.f2) (a3:=.int .i64 x.f3) HC.out BK.out (by decide))
    replace HB:=Z_ (lS1_ (j:=3) (v:=.int .i64 x.f3) (lS1_ (j:=2) (v:=.int .i64 x.f2) (lS1_ (j:=1) (v:=.int .i64 x.f1) (lS1_ (j:=0) (v:=.int .i64 x.f0) HB.out a4.out) a4.out) a4.out) a4.out)
    clear BK hy0 hy1 hy2 hy3
    have BK:=n0_
    clear n0_
    generalize (w3.setCell ⟨g9,0,none⟩ (.int .i64 x.f0) |>.setCell ⟨g9,1,none⟩ (.int .i64 x.f1) |>.setCell ⟨g9,2,none⟩ (.int .i64 x.f2) |>.setCell ⟨g9,3,none⟩ (.int .i64 x.f3)) = w4 at BK HX HO HC HB ⊢
    obtain ⟨_,_,_,_,_,_,_,_⟩:=bc4H BK.out
    have hw1 : IntKind.i64.wrap ((kk : Int) + 1) = (kk : Int) + 1:=by rw [i64_w,w64k (by omega) (by have:=HLO.out;omega)]
    have h:=HT.out
    clear HT
    by_cases q3 : x.f0 = 3
    ·rw [if_pos q3] at h
     replace h:=bS_ h
     obtain ⟨n1,HR,h⟩:=h
     have HS:=Z_ h
     clear h
     obtain ⟨_,_,_⟩:=eqTH q3
     have q5 : ¬ x.f0 = 5:=by omega
     obtain ⟨_,_,_⟩:=eqFH q5
     clear q3 q5
     go_wp2
     replace HX:=Z_ (rD_ HX.out)
     replace HO:=Z_ (rD_ HO.out)
     replace HC:=Z_ (rD_ HC.out)
     replace HB:=Z_ (below_drew HB.out)
     replace BK:=Z_ (bD_ BK.out)
     refine start_ (n:=8) (S:=fun w' => w'.cell? ⟨g9,1,none⟩ = some (.int .i64 x.f1) ∧ w'.cell? ⟨g9,2,none⟩ = some (.int .i64 x.f2)) (ds:=[]) (Bt 8 0) (by kernel_rfl) rfl rfl ⟨(blk_cell BK.out 1).trans rfl,(blk_cell BK.out 2).trans rfl⟩ (fun hHeld => ?_)
     generalize w4.drew = wD at HX HO HC HB BK hHeld ⊢
     refine pu_ 0 (some 33) (Bt 8 1) (by kernel_rfl) ?_
     refine pu_ 1 (some 34) (Bt 8 3) (by kernel_rfl) ?_
     refine ta_ 2 (some 35) (Bt 8 7) (by kernel_rfl) hHeld ?_
     refine pu_ 4 (some 37) (Bt 8 23) (by kernel_rfl) ?_
     refine ta_ 5 (some 38) (Bt 8 55) (by kernel_rfl) hHeld ?_
     refine one_ (i:=3) (N:=some 36) (Bt 8 63) rfl rfl (by kernel_rfl) (by decide) (fun K hK => ?_)
     refine goes_ Tryz.func68 (by kernel_rfl) rfl #[u7,.int .i64 x.f1] (by rfl) rfl rfl (by (try simp only [List.map_toArray,List.map_cons,List.map_nil]);first | done | rfl) ?_
     refine (spec_l1Rise.calls u7 nx x.f1 w.heap.size n1 _ HX.out (below_size HB.out) HR.out).mono ?_
     rintro e wA ⟨v36,rfl,ho_,hb_⟩
     refine ⟨_,rfl,?_⟩
     clear HX
     have HX:=Z_ ho_
     replace HO:=Z_ (Kd.R_below HO.out hb_)
     replace HC:=Z_ (Kd.R_below HC.out hb_)
     replace HB:=Z_ (lP_ HB.out hb_)
     replace BK:=Z_ (bB_ BK.out hb_)
     clear ho_ hb_
     refine hK.out _ _ ⟨(blk_cell BK.out 1).trans rfl,(blk_cell BK.out 2).trans rfl⟩ (fun hHeld => ?_)
     clear hK K
     refine norm_ (a':=?_) ?_ ?_
     rotate_left
     ·show Act.put _ (some 36) _ = _
      simp only [Act.put,lA_,lZ_,lS_,i64_w,i32_w]
      rfl
     refine one_ (i:=6) (N:=some 39) (Bt 8 127) rfl rfl (by kernel_rfl) (by decide) (fun K hK => ?_)
     refine goes_ Tryz.func68 (by kernel_rfl) rfl #[v36,.int .i64 x.f2] (by rfl) rfl rfl (by (try simp only [List.map_toArray,List.map_cons,List.map_nil]);first | done | rfl) ?_
     refine (spec_l1Rise.calls v36 n1 x.f2 w.heap.size nx2 _ HX.out (below_size HB.out) HS.out).mono ?_
     rintro e wC ⟨v39,rfl,ho_,hb_⟩
     refine ⟨_,rfl,?_⟩
     clear HX
     have HX:=Z_ ho_
     replace HO:=Z_ (Kd.R_below HO.out hb_)
     replace HC:=Z_ (Kd.R_below HC.out hb_)
     replace HB:=Z_ (lP_ HB.out hb_)
     replace BK:=Z_ (bB_ BK.out hb_)
     clear ho_ hb_
     refine hK.out _ _ ⟨(blk_cell BK.out 1).trans rfl,(blk_cell BK.out 2).trans rfl⟩ (fun hHeld => ?_)
     clear hK K
     refine norm_ (a':=?_) ?_ ?_
     rotate_left
     ·show Act.put _ (some 39) _ = _
      simp only [Act.put,lA_,lZ_,lS_,i64_w,i32_w]
      rfl
     refine pu_ 7 (some 7) (Bt 8 255) (by kernel_rfl) ?_
     refine done_ (by kernel_rfl) ?_
     obtain ⟨_,_,_,_,_,_,_,_⟩:=bc4H BK.out
     clear hHeld
     go_wp2
     go_roundg (out.length - (kk + 1))
     case measure => omega
     case rel => exact ⟨kk + 1,nx2,by omega,by omega,(by first | rfl | (rw [hw1];push_cast;rfl) | (push_cast;rfl)),⟨Rk_ HX⟩,⟨Rk_ HO⟩,⟨Rk_ HC⟩,⟨Lb_⟩,HXX⟩
    rw [if_neg q3] at h
    obtain ⟨_,_,_⟩:=eqFH q3
    clear q3
    by_cases q5 : x.f0 = 5
    rotate_left
    ·rw [if_neg q5] at h
     obtain rfl:=Option.some.inj h
     clear h
     obtain ⟨_,_,_⟩:=eqFH q5
     clear q5
     go_wp2
     go_roundg (out.length - (kk + 1))
     case measure => omega
     case rel => exact ⟨kk + 1,nx,by omega,by omega,(by first | rfl | (rw [hw1];push_cast;rfl) | (push_cast;rfl)),⟨Rk_ HX⟩,⟨Rk_ HO⟩,⟨Rk_ HC⟩,⟨Lb_⟩,HXX⟩
    rw [if_pos q5] at h
    replace h:=iN_ h
    obtain ⟨⟨ha0,ha1⟩,h⟩:=h
    obtain ⟨_,_,_⟩:=eqTH q5
    clear q5
    obtain ⟨ad6,ea6,hcn⟩:=Kd.at_bool (Kd.R_reads' HC.out).2.2 x.f1 ha0 ha1
    subst ea6
    rw [show rdOf false can x.f1 = can.getD x.f1.toNat false from rfl] at hcn
    cases hoc : can.getD x.f1.toNat false
    all_goals rw [hoc] at hcn h
    all_goals clear hoc
    ·rw [if_neg (by decide)] at h
     obtain rfl:=Option.some.inj h
     clear h
     go_wp2
     go_roundg (out.length - (kk + 1))
     case measure => omega
     case rel => exact ⟨kk + 1,nx,by omega,by omega,(by first | rfl | (rw [hw1];push_cast;rfl) | (push_cast;rfl)),⟨Rk_ HX⟩,⟨Rk_ HO⟩,⟨Rk_ HC⟩,⟨Lb_⟩,HXX⟩
    ·rw [if_pos rfl] at h
     have HS:=Z_ h
     clear h
     go_wp2_with (first | (go_at_call 68;refine (spec_l1Rise.calls _ nx x.f2 w.heap.size nx2 _ (Rk_ HX) (below_size Lb_) HS.out).mono ?_;rintro e w47 ⟨v47,rfl,ho,hb⟩;replace HO:=Z_ (Kd.R_below (Rk_ HO) hb);replace HC:=Z_ (Kd.R_below (Rk_ HC) hb);replace HB:=Z_ (lP_ Lb_ hb);clear HX;have HX:=Z_ ho;clear ho hb))
     go_roundg (out.length - (kk + 1))
     case measure => omega
     case rel => exact ⟨kk + 1,nx2,by omega,by omega,(by first | rfl | (rw [hw1];push_cast;rfl) | (push_cast;rfl)),⟨Rk_ HX⟩,⟨Rk_ HO⟩,⟨Rk_ HC⟩,⟨Lb_⟩,HXX⟩
def spec_l6Derives.f (k : Nat) (l0 : List (S83)) (l1 : List Int) : Option (List Bool):=(spec_l6Open.f k l0 l1).bind fun t234 => ((spec_l6Make.f k l0 t234).bind fun t237 => (some t237))
set_option maxHeartbeats 8000000 in
set_option maxRecDepth 100000 in
theorem spec_l6Derives.calls (k : Nat) (A0 : Option Addr) (c0 : Nat) (l0 : List (S83)) (A1 : Option Addr) (c1 : Nat) (l1 : List Int) (r : List Bool) (w : World) (hr0 : Kd.C k83 w A0 l0.length l0) (hc0 : l0.length ≤ c0) (hr1 : Kd.C (Kd.int .i64) w A1 l1.length l1) (hc1 : l1.length ≤ c1) (h : spec_l6Derives.f k l0 l1 = some r) :
  Calls Tryz.prog 48 #[.slice A0 l0.length c0,.slice A1 l1.length c1] w fun e w' => ∃ v0_ : Value,e = .returned (v0_) ∧ Kd.R Kd.bool 4 w' w.heap.size (fun _ => True) v0_ r ∧ Below w.heap.size w w':=by
 have HR0:=Z_ hr0
 have HC0:=Z_ hc0
 clear hr0 hc0
 have HR1:=Z_ hr1
 have HC1:=Z_ hc1
 clear hr1 hc1
 have HB:=Z_ (Below.refl w.heap.size w)
 unfold spec_l6Derives.f at h
 have H:=h
 clear h
 replace H:=bS_ H
 obtain ⟨t234,A3,H⟩:=H
 replace H:=bS_ H
 obtain ⟨t237,A4,H⟩:=H
 obtain rfl:=Option.some.inj H
 go_enter Tryz.func48,Tryz.ntmps48
 go_wp2_with (first | ((with_reducible refine gate_callee (f:=78) rfl ?_);refine goesA_ (some 8) rfl rfl Tryz.func78 (by kernel_rfl) rfl #[.slice A0 l0.length c0,.slice A1 l1.length c1] rfl ?_;(with_reducible refine (spec_l6Open.calls k _ _ l0 _ _ l1 t234 _ ?side1 ?side2 ?side3 ?side4 A3.out).mono ?_);(case side1 => repeat (first | exact HR0.out | (with_reducible refine Kd.C_alloc ?_ _) | (with_reducible refine Kd.C_drewN ?_ _) | (with_reducible refine Kd.C_drew ?_)));(case side2 => exact HC0.out);(case side3 => repeat (first | exact HR1.out | (with_reducible refine Kd.C_alloc ?_ _) | (with_reducible refine Kd.C_drewN ?_ _) | (with_reducible refine Kd.C_drew ?_)));(case side4 => exact HC1.out);rintro e w5 ⟨v235,rfl,ho0,hb⟩;refine ⟨_,rfl,?_⟩;have HO236:=Z_ (Kd.R_lower ho0 (below_size HB.out));replace HB:=Z_ (lP_ HB.out hb);(try clear hb);(try clear ho0);obtain ⟨Ao6,co6,eo6⟩:=Kd.R_slice HO236.out;subst eo6) | ((with_reducible refine gate_callee (f:=77) rfl ?_);refine goesA_ (some 9) rfl rfl Tryz.func77 (by kernel_rfl) rfl #[.slice A0 l0.length c0,.slice Ao6 t234.length co6] rfl ?_;(with_reducible refine (spec_l6Make.calls k _ _ l0 _ _ t234 t237 _ ?side1 ?side2 ?side3 ?side4 A4.out).mono ?_);(case side1 => exact Cb_ HR0);(case side2 => exact HC0.out);(case side3 => exact Rc_ HO236);(case side4 => exact (Kd.R_reads' HO236.out).2.1);rintro e w7 ⟨v238,rfl,ho0,hb⟩;refine ⟨_,rfl,?_⟩;have HO239:=Z_ (Kd.R_lower ho0 (below_size HB.out));replace HB:=Z_ (lP_ HB.out hb);(try clear hb);(try clear ho0)))
 go_ret
 exact ⟨_,Er_,Rk_ HO239,Lb_⟩
def spec_l12Learns.f (k : Nat) (lt : List S83) (lb lh : List Int) (at_ : Int) : Option Bool:=(spec_l12Known.f k lt lb lh).bind fun kn => (spec_l6Derives.f k lt kn).bind fun can => if 0 ≤ at_ ∧ at_ < (can.length : Int) then some (can.getD at_.toNat false) else none
set_option maxHeartbeats 8000000 in
set_option maxRecDepth 100000 in
theorem spec_l12Learns.calls (k p : Nat) (A0 A1 A2 A3 A4 A5 : Option Addr) (c0 c1 c2 c3 c4 c5 n1 n4 n5 : Nat) (lt : List S83) (lb lh : List Int) (at_ : Int) (r : Bool) (w : World) (hI : w.heap[p]? = some (.cells #[.slice A0 lt.length c0,.slice A1 n1 c1,.slice A2 lb.length c2,.slice A3 lh.length c3,.slice A4 n4 c4,.slice A5 n5 c5] 34 (0,0))) (hr0 : Kd.C k83 w A0 lt.length lt) (hc0 : lt.length ≤ c0) (hr2 : Kd.C (Kd.int .i64) w A2 lb.length lb) (hc2 : lb.length ≤ c2) (hr3 : Kd.C (Kd.int .i64) w A3 lh.length lh) (hc3 : lh.length ≤ c3) (h : spec_l12Learns.f k lt lb lh at_ = some r) :
    Calls Tryz.prog 22 #[.pointer (some ⟨p,0,none⟩),.int .i64 at_] w fun e w' => e = .returned (.bool r) ∧ Below w.heap.size w w':=by
 have hu1:=Tryz.underlying34
 have HR0:=Z_ hr0
 have HC0:=Z_ hc0
 have HR2:=Z_ hr2
 have HC2:=Z_ hc2
 have HR3:=Z_ hr3
 have HC3:=Z_ hc3
 have BI:=Z_ (bD_ hI)
 have HB:=Z_ (below_drew (Below.refl w.heap.size w))
 clear hI hr0 hc0 hr2 hc2 hr3 hc3
 unfold spec_l12Learns.f at h
 replace h:=bS_ h
 obtain ⟨kn,HK,h⟩:=h
 replace h:=bS_ h
 obtain ⟨can,HP,h⟩:=h
 replace h:=iN_ h
 obtain ⟨⟨ha0,ha1⟩,h⟩:=h
 replace h:=Option.some.inj h
 have HM:=Z_ h
 clear h
 go_enter Tryz.func22,Tryz.ntmps22
 go_wp2
 refine start_ (n:=11) (S:=fun w' => w'.cell? ⟨p,0,none⟩ = some (.slice A0 lt.length c0) ∧ True) (ds:=[]) (Bt 11 0) (by kernel_rfl) rfl rfl ⟨(blk_cell BI.out 0).trans rfl,trivial⟩ (fun hHeld => ?_)
 generalize w.drew = wD at BI HB hHeld ⊢
 refine pu_ 0 (some 5) (Bt 11 1) (by kernel_rfl) ?_
 refine pu_ 1 (some 6) (Bt 11 3) (by kernel_rfl) ?_
 refine pu_ 2 (some 7) (Bt 11 7) (by kernel_rfl) ?_
 refine ta_ 3 (some 8) (Bt 11 15) (by kernel_rfl) hHeld ?_
 refine pu_ 4 (some 9) (Bt 11 31) (by kernel_rfl) ?_
 refine pu_ 7 (some 12) (Bt 11 159) (by kernel_rfl) ?_
 refine one_ (i:=5) (N:=some 10) (Bt 11 191) rfl rfl (by kernel_rfl) (by decide) (fun K hK => ?_)
 refine goes_ Tryz.func34 (by kernel_rfl) rfl #[.pointer (some ⟨p,0,none⟩)] (by rfl) rfl rfl (by (try simp only [List.map_toArray,List.map_cons,List.map_nil]);first | done | rfl) ?_
 refine (spec_l12Known.calls k p A0 A1 A2 A3 A4 A5 c0 c1 c2 c3 c4 c5 n1 n4 n5 lt lb lh kn _ BI.out (Kd.C_below HR0.out HB.out) HC0.out (Kd.C_below HR2.out HB.out) HC2.out (Kd.C_below HR3.out HB.out) HC3.out HK.out).mono ?_
 rintro e w10 ⟨v10,rfl,ho_,hb_⟩
 refine ⟨_,rfl,?_⟩
 have HQ:=Z_ (Kd.R_lower ho_ (below_size HB.out))
 replace BI:=Z_ (bB_ BI.out hb_)
 replace HB:=Z_ (lP_ HB.out hb_)
 clear ho_ hb_
 obtain ⟨A10,c10,e_⟩:=Kd.R_slice HQ.out
 subst e_
 refine hK.out _ _ ⟨(blk_cell BI.out 0).trans rfl,trivial⟩ (fun hHeld => ?_)
 clear hK K
 refine norm_ (a':=?_) ?_ ?_
 rotate_left
 ·show Act.put _ (some 10) _ = _
  simp only [Act.put,lA_,lZ_,lS_,i64_w,i32_w]
  rfl
 refine one_ (i:=6) (N:=some 11) (Bt 11 255) rfl rfl (by kernel_rfl) (by decide) (fun K hK => ?_)
 refine goes_ Tryz.func48 (by kernel_rfl) rfl #[.slice A0 lt.length c0,.slice A10 kn.length c10] (by rfl) rfl rfl (by (try simp only [List.map_toArray,List.map_cons,List.map_nil]);first | done | rfl) ?_
 refine (spec_l6Derives.calls k A0 c0 lt A10 c10 kn can _ (Kd.C_below HR0.out HB.out) HC0.out (Kd.R_reads' HQ.out).2.2 (Kd.R_reads' HQ.out).2.1 HP.out).mono ?_
 rintro e w11 ⟨v11,rfl,ho_,hb_⟩
 refine ⟨_,rfl,?_⟩
 have HS:=Z_ (Kd.R_lower ho_ (below_size HB.out))
 replace BI:=Z_ (bB_ BI.out hb_)
 replace HB:=Z_ (lP_ HB.out hb_)
 clear ho_ hb_
 obtain ⟨A11,c11,e_⟩:=Kd.R_slice HS.out
 subst e_
 obtain ⟨ad_,ea_,hcn⟩:=Kd.at_bool (Kd.R_reads' HS.out).2.2 at_ ha0 ha1
 subst ea_
 rw [show rdOf false can at_ = r from HM.out] at hcn
 refine hK.out _ _ ⟨(blk_cell BI.out 0).trans rfl,trivial⟩ (fun hHeld => ?_)
 clear hK K
 refine norm_ (a':=?_) ?_ ?_
 rotate_left
 ·show Act.put _ (some 11) _ = _
  simp only [Act.put,lA_,lZ_,lS_,i64_w,i32_w]
  rfl
 refine pu_ 8 (some 13) (Bt 11 511) (by kernel_rfl) ?_
 refine one_ (i:=9) (N:=some 14) (Bt 11 1023) rfl rfl (by kernel_rfl) (by decide) (fun K hK => ?_)
 refine value_ (w1:=?_) (v:=?_) (by rfl) rfl ?_ ?_
 rotate_left 2
 ·go_simp
  first | rfl | (constructor <;> rfl)
 refine hK.out _ _ ⟨(blk_cell BI.out 0).trans rfl,trivial⟩ (fun hHeld => ?_)
 clear hK K
 refine norm_ (a':=?_) ?_ ?_
 rotate_left
 ·show Act.put _ (some 14) _ = _
  simp only [Act.put,lA_,lZ_,lS_,i64_w,i32_w]
  rfl
 refine pu_ 10 (some 4) (Bt 11 2047) (by kernel_rfl) ?_
 refine done_ (by kernel_rfl) ?_
 go_wp2
 go_ret
 exact ⟨rfl,HB.out⟩
def spec_LearnsIt.f (k : Nat) (lt : List S83) (lg : List S76) (lb lh : List Int) (lv : List S88) (lw : List S88) (at_ : Int) : Option Bool:=(spec_NetFault.f k lt lg lb lh lv lw).bind fun c => if c = 0 then (spec_l5At.f lt at_).bind fun b => if b = true then spec_l12Learns.f k lt lb lh at_ else some false else some false
set_option maxHeartbeats 8000000 in
set_option maxRecDepth 100000 in
theorem spec_LearnsIt.calls (k : Nat) (A0 : Option Addr) (c0 : Nat) (lt : List (S83)) (A1 : Option Addr) (c1 : Nat) (lg : List (S76)) (A2 : Option Addr) (c2 : Nat) (lb : List Int) (A3 : Option Addr) (c3 : Nat) (lh : List Int) (A4 : Option Addr) (c4 : Nat) (lv : List (S88)) (A5 : Option Addr) (c5 : Nat) (lw : List (S88)) (at_ : Int) (r : Bool) (w : World) (hr0 : Kd.C k83 w A0 lt.length lt) (hc0 : lt.length ≤ c0) (hr1 : Kd.C k76 w A1 lg.length lg) (hc1 : lg.length ≤ c1) (hr2 : Kd.C (Kd.int .i64) w A2 lb.length lb) (hc2 : lb.length ≤ c2) (hr3 : Kd.C (Kd.int .i64) w A3 lh.length lh) (hc3 : lh.length ≤ c3) (hr4 : Kd.C k88 w A4 lv.length lv) (hc4 : lv.length ≤ c4) (hr5 : Kd.C k88 w A5 lw.length lw) (hc5 : lw.length ≤ c5) (h : spec_LearnsIt.f k lt lg lb lh lv lw at_ = some r) :
    Calls Tryz.prog 6 #[.agg #[.slice A0 lt.length c0,.slice A1 lg.length c1,.slice A2 lb.length c2,.slice A3 lh.length c3,.slice A4 lv.length c4,.slice A5 lw.length c5],.int .i64 at_] w fun e w' => e = .returned (.bool r) ∧ Below w.heap.size w w':=by
 have hu1:=Tryz.underlying34
 have HR0:=Z_ hr0
 have HC0:=Z_ hc0
 have HR1:=Z_ hr1
 have HC1:=Z_ hc1
 have HR2:=Z_ hr2
 have HC2:=Z_ hc2
 have HR3:=Z_ hr3
 have HC3:=Z_ hc3
 have HR4:=Z_ hr4
 have HC4:=Z_ hc4
 have HR5:=Z_ hr5
 have HC5:=Z_ hc5
 have HB:=Z_ (Below.refl w.heap.size w)
 clear hr0 hc0 hr1 hc1 hr2 hc2 hr3 hc3 hr4 hc4 hr5 hc5
 unfold spec_LearnsIt.f at h
 replace h:=bS_ h
 obtain ⟨c,HF,h⟩:=h
 by_cases hz : c = 0
 rotate_left
 ·rw [if_neg hz] at h
  obtain ⟨_,_,_⟩:=eqFH hz
  clear hz
  obtain rfl:=Option.some.inj h
  go_enter Tryz.func6,Tryz.ntmps6
  go_wp2_with (first | ((with_reducible refine gD_ 2 rfl ?_);refine bx_ #[.slice A0 lt.length c0,.slice A1 lg.length c1,.slice A2 lb.length c2,.slice A3 lh.length c3,.slice A4 lv.length c4,.slice A5 lw.length c5] 34 ?_;intro g2 hg w3 hbox hb;replace HB:=Z_ (lP_ HB.out hb);have BI:=Z_ hbox;clear hb hbox hg;obtain ⟨_,_,_,_,_,_,_,_,_,_,_,_⟩:=bc6 BI.out) | (go_at_call 20;refine (spec_NetFault.calls k A0 c0 lt A1 c1 lg A2 c2 lb A3 c3 lh A4 c4 lv A5 c5 lw c _ (Kd.C_below HR0.out Lb_) HC0.out (Kd.C_below HR1.out Lb_) HC1.out (Kd.C_below HR2.out Lb_) HC2.out (Kd.C_below HR3.out Lb_) HC3.out (Kd.C_below HR4.out Lb_) HC4.out (Kd.C_below HR5.out Lb_) HC5.out HF.out).mono ?_;rintro e w5 ⟨rfl,hb⟩;replace BI:=Z_ (bB_ (Bk_ BI) hb);replace HB:=Z_ (lP_ Lb_ hb);clear hb;obtain ⟨_,_,_,_,_,_,_,_,_,_,_,_⟩:=bc6 BI.out))
  go_ret
  exact ⟨rfl,Lb_⟩
 rw [if_pos hz] at h
 subst hz
 replace h:=bS_ h
 obtain ⟨b,HG,h⟩:=h
 cases b with
 | false =>
  rw [if_neg (by decide)] at h
  obtain rfl:=Option.some.inj h
  go_enter Tryz.func6,Tryz.ntmps6
  go_wp2_with (first | ((with_reducible refine gD_ 2 rfl ?_);refine bx_ #[.slice A0 lt.length c0,.slice A1 lg.length c1,.slice A2 lb.length c2,.slice A3 lh.length c3,.slice A4 lv.length c4,.slice A5 lw.length c5] 34 ?_;intro g2 hg w3 hbox hb;replace HB:=Z_ (lP_ HB.out hb);have BI:=Z_ hbox;clear hb hbox hg;obtain ⟨_,_,_,_,_,_,_,_,_,_,_,_⟩:=bc6 BI.out) | (go_at_call 20;refine (spec_NetFault.calls k A0 c0 lt A1 c1 lg A2 c2 lb A3 c3 lh A4 c4 lv A5 c5 lw 0 _ (Kd.C_below HR0.out Lb_) HC0.out (Kd.C_below HR1.out Lb_) HC1.out (Kd.C_below HR2.out Lb_) HC2.out (Kd.C_below HR3.out Lb_) HC3.out (Kd.C_below HR4.out Lb_) HC4.out (Kd.C_below HR5.out Lb_) HC5.out HF.out).mono ?_;rintro e w5 ⟨rfl,hb⟩;replace BI:=Z_ (bB_ (Bk_ BI) hb);replace HB:=Z_ (lP_ Lb_ hb);clear hb;obtain ⟨_,_,_,_,_,_,_,_,_,_,_,_⟩:=bc6 BI.out) | (go_at_call 21;refine (spec_l5At.calls A0 c0 lt at_ _ _ (Kd.C_below HR0.out Lb_) HC0.out HG.out).mono ?_;rintro e w' ⟨rfl,⟨nd,rfl⟩⟩))
  go_ret
  exact ⟨rfl,Lb_⟩
 | true =>
  rw [if_pos rfl] at h
  have HL:=Z_ h
  clear h
  go_enter Tryz.func6,Tryz.ntmps6
  go_wp2_with (first | ((with_reducible refine gD_ 2 rfl ?_);refine bx_ #[.slice A0 lt.length c0,.slice A1 lg.length c1,.slice A2 lb.length c2,.slice A3 lh.length c3,.slice A4 lv.length c4,.slice A5 lw.length c5] 34 ?_;intro g2 hg w3 hbox hb;replace HB:=Z_ (lP_ HB.out hb);have BI:=Z_ hbox;clear hb hbox hg;obtain ⟨_,_,_,_,_,_,_,_,_,_,_,_⟩:=bc6 BI.out) | (go_at_call 20;refine (spec_NetFault.calls k A0 c0 lt A1 c1 lg A2 c2 lb A3 c3 lh A4 c4 lv A5 c5 lw 0 _ (Kd.C_below HR0.out Lb_) HC0.out (Kd.C_below HR1.out Lb_) HC1.out (Kd.C_below HR2.out Lb_) HC2.out (Kd.C_below HR3.out Lb_) HC3.out (Kd.C_below HR4.out Lb_) HC4.out (Kd.C_below HR5.out Lb_) HC5.out HF.out).mono ?_;rintro e w5 ⟨rfl,hb⟩;replace BI:=Z_ (bB_ (Bk_ BI) hb);replace HB:=Z_ (lP_ Lb_ hb);clear hb;obtain ⟨_,_,_,_,_,_,_,_,_,_,_,_⟩:=bc6 BI.out) | (go_at_call 21;refine (spec_l5At.calls A0 c0 lt at_ _ _ (Kd.C_below HR0.out Lb_) HC0.out HG.out).mono ?_;rintro e w' ⟨rfl,⟨nd,rfl⟩⟩) | (go_at_call 22;refine (spec_l12Learns.calls k g2 A0 A1 A2 A3 A4 A5 c0 c1 c2 c3 c4 c5 lg.length lv.length lw.length lt lb lh at_ r _ (Bk_ BI) (Kd.C_below HR0.out Lb_) HC0.out (Kd.C_below HR2.out Lb_) HC2.out (Kd.C_below HR3.out Lb_) HC3.out HL.out).mono ?_;rintro e w6 ⟨rfl,hb⟩;replace HB:=Z_ (lP_ Lb_ hb);clear hb))
  go_ret
  exact ⟨rfl,Lb_⟩
def laws_toTerm.f (a0_0 a0_1 a0_2 a0_3 : Int) : Option (Int × Int × Int × Int):=some (a0_0,a0_1,a0_2,a0_3)
set_option maxHeartbeats 8000000 in
set_option maxRecDepth 100000 in
theorem laws_toTerm.calls (a0_0 a0_1 a0_2 a0_3 r1 r2 r3 r4 : Int) (w : World) (h : laws_toTerm.f a0_0 a0_1 a0_2 a0_3 = some (r1,r2,r3,r4)) :
  Calls Tryz.prog 49 #[.agg #[.int .i64 a0_0,.int .i64 a0_1,.int .i64 a0_2,.int .i64 a0_3]] w fun e w' => e = .returned (.agg #[.int .i64 r1,.int .i64 r2,.int .i64 r3,.int .i64 r4]) ∧ Below w.heap.size w w':=by
 have hu85:=Tryz.underlying85
 have hu83:=Tryz.underlying83
 have HB:=Z_ (Below.refl w.heap.size w)
 unfold laws_toTerm.f at h
 have H:=h
 clear h
 simp only [Option.some.injEq,Prod.mk.injEq] at H
 obtain ⟨rfl,rfl,rfl,rfl⟩:=H
 go_enter Tryz.func49,Tryz.ntmps49
 go_wp2_with (first | ((with_reducible refine gD_ 1 rfl ?_);refine bx_ #[.int .i64 a0_0,.int .i64 a0_1,.int .i64 a0_2,.int .i64 a0_3] 85 ?_;intro gb240 hg w2 hbox hb;have BK240:=Z_ hbox;have GE240:=Z_ ((by rw [hg];exact (below_size HB.out) : w.heap.size ≤ gb240));replace HB:=Z_ (lP_ HB.out hb);clear hb hbox hg) | ((with_reducible refine gD_ 2 rfl ?_);refine bx_ #[.int .i64 0,.int .i64 0,.int .i64 0,.int .i64 0] 83 ?_;intro gb241 hg w3 hbox hb;have BK241:=Z_ hbox;have GE241:=Z_ ((by rw [hg];exact (below_size HB.out) : w.heap.size ≤ gb241));replace HB:=Z_ (lP_ HB.out hb);have NB240_241:=Z_ ((by rw [hg];exact Nat.ne_of_lt (blk_lt BK240.out) : gb240 ≠ gb241));replace BK240:=Z_ (bB_ BK240.out hb);have NB241_240:=Z_ NB240_241.out.symm;clear hb hbox hg) | ((with_reducible refine gD_ 3 rfl ?_);refine bx_ #[.int .i64 0,.int .i64 0,.int .i64 0,.int .i64 0] 83 ?_;intro gb242 hg w4 hbox hb;have BK242:=Z_ hbox;have GE242:=Z_ ((by rw [hg];exact (below_size HB.out) : w.heap.size ≤ gb242));replace HB:=Z_ (lP_ HB.out hb);have NB240_242:=Z_ ((by rw [hg];exact Nat.ne_of_lt (blk_lt BK240.out) : gb240 ≠ gb242));replace BK240:=Z_ (bB_ BK240.out hb);have NB242_240:=Z_ NB240_242.out.symm;have NB241_242:=Z_ ((by rw [hg];exact Nat.ne_of_lt (blk_lt BK241.out) : gb241 ≠ gb242));replace BK241:=Z_ (bB_ BK241.out hb);have NB242_241:=Z_ NB241_242.out.symm;clear hb hbox hg;have hnb5:=NB240_241.out;have hnc5:=NB241_240.out;have hnb6:=NB240_242.out;have hnc6:=NB242_240.out;obtain ⟨_,_,_,_,_,_,_,_⟩:=bc4 BK240.out;have hnb8:=NB242_241.out;have hnc8:=NB241_242.out;obtain ⟨_,_,_,_,_,_,_,_⟩:=bc4 BK242.out;obtain ⟨_,_,_,_,_,_,_,_⟩:=bc4 BK241.out))
 refine bodyPost_ret (results_cell_row rfl _ _ gb241 83 #[.int .i64 a0_0,.int .i64 a0_1,.int .i64 a0_2,.int .i64 a0_3] (0,0) _ rfl (by (with_reducible repeat first | apply bN_ | apply bD_ | apply bA_);apply fill4;(iterate 4 ((with_reducible repeat first | apply bN_ | apply bD_ | apply bA_);refine bF_ ?_ NB241_242.out _));(with_reducible repeat first | apply bN_ | apply bD_ | apply bA_);exact BK241.out) Tryz.underlying83 rfl (by kernel_rfl)) rfl ?_
 exact ⟨Er_,Lb_⟩
def laws_toTermS.l0 : Nat → List (S85) → List (S83) → Int → Option ((List (S83)))
 | 0,_,_,_ => none
 | k + 1,x0,x3,x4 => if x4 < (x0.length : Int) then (if 0 ≤ x4 then ((laws_toTerm.f ((rd_T85 x0 x4).f0) ((rd_T85 x0 x4).f1) ((rd_T85 x0 x4).f2) ((rd_T85 x0 x4).f3)).bind fun bt247 => (if x4 < (x3.length : Int) then (laws_toTermS.l0 k x0 (x3.set (x4 : Int).toNat (⟨bt247.1,bt247.2.1,bt247.2.2.1,bt247.2.2.2⟩ : S83)) (wrap64 (x4 + 1))) else (none))) else (none)) else (some x3)
def laws_toTermS.f (k : Nat) (l0 : List (S85)) : Option ((List (S83))):=if 0 ≤ (l0.length : Int) then (if ((l0.length : Int) : Int).toNat ≤ 8796093022208 then (laws_toTermS.l0 k l0 (List.replicate ((l0.length : Int) : Int).toNat z83) 0) else (none)) else (none)
set_option maxHeartbeats 8000000 in
set_option maxRecDepth 100000 in
theorem laws_toTermS.calls (k : Nat) (A0 : Option Addr) (c0 : Nat) (l0 : List (S85)) (r : List (S83)) (w : World) (hr0 : Kd.C k85 w A0 l0.length l0) (hc0 : l0.length ≤ c0) (h : laws_toTermS.f k l0 = some r) :
  Calls Tryz.prog 23 #[.slice A0 l0.length c0] w fun e w' => ∃ v0_ : Value,e = .returned (v0_) ∧ Kd.R k83 83 w' w.heap.size (fun _ => True) v0_ r ∧ Below w.heap.size w w':=by
 have hu85:=Tryz.underlying85
 have hu83:=Tryz.underlying83
 have a8:=Z_ hr0
 have a9:=Z_ hc0
 clear hr0 hc0
 have HB:=Z_ (Below.refl w.heap.size w)
 unfold laws_toTermS.f at h
 have H:=h
 clear h
 replace H:=iN_ H
 obtain ⟨c2,H⟩:=H
 have c2b0:=eq_true c2
 have c2b1 : decide (0 ≤ (l0.length : Int)) = true:=decide_eq_true c2
 clear c2
 replace H:=iN_ H
 obtain ⟨c3,H⟩:=H
 have c3b0:=eq_true c3
 have c3b1 : decide (((l0.length : Int) : Int).toNat ≤ 8796093022208) = true:=decide_eq_true c3
 clear c3
 obtain ⟨y243,hy243⟩ : ∃ y_ : List (S83),y_ = (List.replicate ((l0.length : Int) : Int).toNat z83):=⟨_,rfl⟩
 replace H : (laws_toTermS.l0 k l0 y243 0) = some r:=by first | (rw [hy243];with_reducible exact H) | (have H2_:=(Option.bind_some _ _).symm.trans H;rw [hy243];with_reducible exact H2_) | (have H2_:=(Option.bind_some _ _).symm.trans H;with_reducible exact H2_) | with_reducible exact H | (rw [hy243];exact H) | exact H
 have a2:=Z_ hy243
 clear hy243
 have H':=Z_ H
 clear H
 go_enter Tryz.func23,Tryz.ntmps23
 go_wp2_with (first | ((with_reducible refine gD_ 7 rfl ?_);refine Kd.R_make k83 _ 83 rfl (N:=7) rfl 30 _ _ rfl (l0.length : Int) rfl rfl Tryz.underlying30 (.agg #[(.int .i64 0),(.int .i64 0),(.int .i64 0),(.int .i64 0)]) 32 info83 rfl (by decide) (by omega) z83 (ok:=fun _ => True) (okp:=fun _ => True) (k83_mkM _ _ _ z83 ) (fun _ hk => hk) trivial (dA_) (Nat.le_trans (Nat.mul_le_mul_right _ (dA_ : (l0.length : Int).toNat ≤ 8796093022208)) (by omega)) (Below.refl _ _) (Nat.le_refl _) ?_;intro v244 w4 ho5 hb hg_ hnew_;clear hg_ hnew_;(first | rw [← a2.out] at ho5 | (simp only [Int.reduceToNat] at ho5;rw [← a2.out] at ho5));have a5:=Z_ (Kd.R_lower ho5 (below_size HB.out));replace HB:=Z_ (lP_ HB.out hb);clear hb ho5))
 go_loopg [4] k (fun kq v4 w' => ∃ (x3_1 : List (S83)) (x4_1 : Int),v4 = .int .i64 x4_1 ∧ Aside0 (laws_toTermS.l0 kq l0 x3_1 x4_1 = some r) ∧ Aside0 (kq ≤ k) ∧ Aside0 (Kd.R k83 83 w' w.heap.size (fun _ => True) v244 x3_1) ∧ Aside0 (Below w.heap.size w w'))
 case atStart => exact ⟨(y243),(0),Sr_,H',⟨Nat.le_refl _⟩,⟨Rk_ a5⟩,⟨Lb_⟩⟩
 case round =>
  clear H'
  try clear c2
  try clear c2b0
  try clear c2b1
  try clear p2
  try clear c3
  try clear c3b0
  try clear c3b1
  obtain ⟨x3_1,x4_1,rfl,HA,HK1,a0,HB⟩:=hrel
  cases gk with
  | zero => exact absurd HA.out (by simp [laws_toTermS.l0])
  | succ k1 =>
   have H:=HA.out
   clear HA
   simp only [laws_toTermS.l0] at H
   replace H:=iD_ H
   obtain ⟨c6b0,H⟩ | ⟨c6b0,H⟩:=H
   rotate_left
   ·obtain rfl:=Option.some.inj H
    go_wp2
    go_ret
    exact ⟨_,Er_,Rk_ a0,Lb_⟩
   rotate_right
   replace H:=iM_ H
   obtain ⟨c7b0,H⟩:=H
   replace H:=bS_ H
   obtain ⟨⟨t247,t248,t249,t250⟩,A8,H⟩:=H
   try dsimp only at H
   replace H:=iM_ H
   obtain ⟨c9b0,H⟩:=H
   obtain ⟨y251,hy251⟩ : ∃ y_ : List (S83),y_ = (x3_1.set (x4_1 : Int).toNat (⟨t247,t248,t249,t250⟩ : S83)):=⟨_,rfl⟩
   replace H : (laws_toTermS.l0 k1 l0 y251 (wrap64 (x4_1 + 1))) = some r:=by first | (rw [hy251];with_reducible exact H) | (have H2_:=(Option.bind_some _ _).symm.trans H;rw [hy251];with_reducible exact H2_) | (have H2_:=(Option.bind_some _ _).symm.trans H;with_reducible exact H2_) | with_reducible exact H | (rw [hy251];exact H) | exact H
   have a6:=Z_ hy251
   clear hy251
   have H':=Z_ H
   clear H
   have p246 : 0 ≤ (x4_1 : Int):=dA_
   have q246 : x4_1 < (l0.length : Int):=dA_
   obtain ⟨ad246,e246,hx246_0,hx246_1,hx246_2,hx246_3⟩:=at_T85 a8.out x4_1 p246 q246
   cases e246
   replace hx246_0:=cB_ HB hx246_0
   replace hx246_1:=cB_ HB hx246_1
   replace hx246_2:=cB_ HB hx246_2
   replace hx246_3:=cB_ HB hx246_3
   replace p246:=eq_true p246
   replace q246:=eq_true q246
   go_wp2_with (first | ((with_reducible refine gate_callee (f:=49) rfl ?_);refine goesA_ (some 20) rfl rfl Tryz.func49 (by kernel_rfl) rfl #[.agg #[.int .i64 ((rd_T85 l0 x4_1).f0),.int .i64 ((rd_T85 l0 x4_1).f1),.int .i64 ((rd_T85 l0 x4_1).f2),.int .i64 ((rd_T85 l0 x4_1).f3)]] rfl ?_;(with_reducible refine (laws_toTerm.calls ((rd_T85 l0 x4_1).f0) ((rd_T85 l0 x4_1).f1) ((rd_T85 l0 x4_1).f2) ((rd_T85 l0 x4_1).f3) t247 t248 t249 t250 _ A8.out).mono ?_);rintro e w11 ⟨rfl,hb⟩;refine ⟨_,rfl,?_⟩;replace a0:=Z_ (Kd.R_below a0.out hb);replace HB:=Z_ (lP_ HB.out hb);(try clear hb);have p10 : 0 ≤ (x4_1 : Int):=dA_;have q10 : (x4_1 : Int) < ((x3_1.length : Int) : Int):=dA_;obtain ⟨go10,a3,eo10,a4,gl10,cl10,HG10⟩:=Kd.R_form a0.out (by omega);(first | cases eo10 | (injection eo10 with ea_ en_ ec_;(first | subst ea_ | (injection ea_ with ea_;subst ea_));subst ec_;clear en_));have a1:=Z_ a4;have GG10:=Z_ HG10;clear a4 gl10 HG10;obtain ⟨ce10,hcl10,hM10,hcc10,hfr10⟩:=Kd.R_elem a0.out z83 (x4_1 : Int) p10 q10;obtain rfl:=k83_openM hM10;have hx10_0 : w11.cell? ⟨go10,(x4_1 : Int).toNat * 4,none⟩ = some (.int .i64 ((rd_T83 x3_1 x4_1).f0)):=hcc10 0 _ rfl;have hx10_1 : w11.cell? ⟨go10,(x4_1 : Int).toNat * 4 + 1,none⟩ = some (.int .i64 ((rd_T83 x3_1 x4_1).f1)):=hcc10 1 _ rfl;have hx10_2 : w11.cell? ⟨go10,(x4_1 : Int).toNat * 4 + 2,none⟩ = some (.int .i64 ((rd_T83 x3_1 x4_1).f2)):=hcc10 2 _ rfl;have hx10_3 : w11.cell? ⟨go10,(x4_1 : Int).toNat * 4 + 3,none⟩ = some (.int .i64 ((rd_T83 x3_1 x4_1).f3)):=hcc10 3 _ rfl;have hf10_0 : w11.frozen? ⟨go10,(x4_1 : Int).toNat * 4,none⟩ = false:=hfr10 0;have hf10_1 : w11.frozen? ⟨go10,(x4_1 : Int).toNat * 4 + 1,none⟩ = false:=hfr10 1;have hf10_2 : w11.frozen? ⟨go10,(x4_1 : Int).toNat * 4 + 2,none⟩ = false:=hfr10 2;have hf10_3 : w11.frozen? ⟨go10,(x4_1 : Int).toNat * 4 + 3,none⟩ = false:=hfr10 3;clear hcl10 hcc10 hfr10 hM10;replace p10:=eq_true p10;replace q10:=eq_true q10;have HX12:=Z_ (show Kd.R k83 83 w11 w.heap.size (fun _ => True) (.slice (some ⟨go10,0,none⟩) x3_1.length a3) x3_1 from a0.out);obtain ⟨ce12,hcl12,hM12,hcc12,hfr12⟩:=Kd.R_elem HX12.out z83 (x4_1 : Int) (dA_) (by have h_ : (x4_1 : Int) < ((x3_1.length : Int) : Int):=dA_;first | exact h_ | (have e_:=(Kd.R_reads' a0.out).1;omega) | simpa using h_);obtain rfl:=k83_openM hM12;have HP12:=Kd.R_seg HX12.out (x4_1 : Int) (dA_) (by have h_ : (x4_1 : Int) < ((x3_1.length : Int) : Int):=dA_;first | exact h_ | (have e_:=(Kd.R_reads' a0.out).1;omega) | simpa using h_) (seg:=[.int .i64 t247,.int .i64 t248,.int .i64 t249,.int .i64 t250]) (j:=0) hcl12 hcc12 (show 4 ≤ 4 from by decide) (x':=(⟨t247,t248,t249,t250⟩ : S83)) (k83_mkM _ _ _ (⟨t247,t248,t249,t250⟩ : S83) ) (fun _ hk => hk);have hx12_0:=hcc12 0 _ rfl;(try simp only [show (k83).sz = 4 from rfl,Nat.mul_one,Nat.add_zero] at hx12_0);have hf12_0:=hfr12 0;(try simp only [show (k83).sz = 4 from rfl,Nat.mul_one,Nat.add_zero] at hf12_0);have hx12_1:=hcc12 1 _ rfl;(try simp only [show (k83).sz = 4 from rfl,Nat.mul_one,Nat.add_zero] at hx12_1);have hf12_1:=hfr12 1;(try simp only [show (k83).sz = 4 from rfl,Nat.mul_one,Nat.add_zero] at hf12_1);have hx12_2:=hcc12 2 _ rfl;(try simp only [show (k83).sz = 4 from rfl,Nat.mul_one,Nat.add_zero] at hx12_2);have hf12_2:=hfr12 2;(try simp only [show (k83).sz = 4 from rfl,Nat.mul_one,Nat.add_zero] at hf12_2);have hx12_3:=hcc12 3 _ rfl;(try simp only [show (k83).sz = 4 from rfl,Nat.mul_one,Nat.add_zero] at hx12_3);have hf12_3:=hfr12 3;(try simp only [show (k83).sz = 4 from rfl,Nat.mul_one,Nat.add_zero] at hf12_3);clear hcl12 hcc12 hfr12 hM12) | ((with_reducible refine gate_store (t:=83) (p:=21) rfl ?_);refine store_event (t:=83) (p:=21) (v:=?vo_w13) (w1:=((((w11.setCell ⟨go10,(x4_1 : Int).toNat * 4,none⟩ (.int .i64 t247)).setCell ⟨go10,(x4_1 : Int).toNat * 4 + 1,none⟩ (.int .i64 t248)).setCell ⟨go10,(x4_1 : Int).toNat * 4 + 2,none⟩ (.int .i64 t249)).setCell ⟨go10,(x4_1 : Int).toNat * 4 + 3,none⟩ (.int .i64 t250))) ?hg ?ho ?hn ?hr ?_;(case ho => rfl);(case hg => rfl);(case hn => rfl);(case hr => first | (go_simp;done) | (go_simp;rfl));intro w13 hw;have hg : w11.grownBy w13 (some go10):=(by rw [hw];exact HP12.2);have hp_ : Kd.R k83 83 w13 w.heap.size (fun _ => True) (.slice (some ⟨go10,0,none⟩) x3_1.length a3) y251:=(by rw [hw,a6.out];exact HP12.1);clear HP12;replace a0:=Z_ (hp_);replace HB:=Z_ ((by rw [hw];exact lS1_ (lS1_ (lS1_ (lS1_ (HB.out) a1.out) a1.out) a1.out) a1.out : Below w.heap.size w w13));clear hg hw hp_))
   go_roundg k1
   case measure => have:=HK1.out;omega
   case rel => exact ⟨(y251),(wrap64 (x4_1 + 1)),Sr_,H',⟨by have:=HK1.out;omega⟩,⟨Rk_ a0⟩,⟨Lb_⟩⟩
def laws_toKeys.f (a0_0 a0_1 a0_2 a0_3 : Int) : Option (Int × Int × Int × Int):=some (a0_0,a0_1,a0_2,a0_3)
set_option maxHeartbeats 8000000 in
set_option maxRecDepth 100000 in
theorem laws_toKeys.calls (a0_0 a0_1 a0_2 a0_3 r1 r2 r3 r4 : Int) (w : World) (h : laws_toKeys.f a0_0 a0_1 a0_2 a0_3 = some (r1,r2,r3,r4)) :
  Calls Tryz.prog 106 #[.agg #[.int .i64 a0_0,.int .i64 a0_1,.int .i64 a0_2,.int .i64 a0_3]] w fun e w' => e = .returned (.agg #[.int .i64 r1,.int .i64 r2,.int .i64 r3,.int .i64 r4]) ∧ Below w.heap.size w w':=by
 have hu139:=Tryz.underlying139
 have hu110:=Tryz.underlying110
 have HB:=Z_ (Below.refl w.heap.size w)
 unfold laws_toKeys.f at h
 have H:=h
 clear h
 simp only [Option.some.injEq,Prod.mk.injEq] at H
 obtain ⟨rfl,rfl,rfl,rfl⟩:=H
 go_enter Tryz.func106,Tryz.ntmps106
 go_wp2_with (first | ((with_reducible refine gD_ 1 rfl ?_);refine bx_ #[.int .i64 a0_0,.int .i64 a0_1,.int .i64 a0_2,.int .i64 a0_3] 139 ?_;intro gb252 hg w2 hbox hb;have BK252:=Z_ hbox;have GE252:=Z_ ((by rw [hg];exact (below_size HB.out) : w.heap.size ≤ gb252));replace HB:=Z_ (lP_ HB.out hb);clear hb hbox hg) | ((with_reducible refine gD_ 2 rfl ?_);refine bx_ #[.int .i64 0,.int .i64 0,.int .i64 0,.int .i64 0] 110 ?_;intro gb253 hg w3 hbox hb;have BK253:=Z_ hbox;have GE253:=Z_ ((by rw [hg];exact (below_size HB.out) : w.heap.size ≤ gb253));replace HB:=Z_ (lP_ HB.out hb);have NB252_253:=Z_ ((by rw [hg];exact Nat.ne_of_lt (blk_lt BK252.out) : gb252 ≠ gb253));replace BK252:=Z_ (bB_ BK252.out hb);have NB253_252:=Z_ NB252_253.out.symm;clear hb hbox hg) | ((with_reducible refine gD_ 3 rfl ?_);refine bx_ #[.int .i64 0,.int .i64 0,.int .i64 0,.int .i64 0] 110 ?_;intro gb254 hg w4 hbox hb;have BK254:=Z_ hbox;have GE254:=Z_ ((by rw [hg];exact (below_size HB.out) : w.heap.size ≤ gb254));replace HB:=Z_ (lP_ HB.out hb);have NB252_254:=Z_ ((by rw [hg];exact Nat.ne_of_lt (blk_lt BK252.out) : gb252 ≠ gb254));replace BK252:=Z_ (bB_ BK252.out hb);have NB254_252:=Z_ NB252_254.out.symm;have NB253_254:=Z_ ((by rw [hg];exact Nat.ne_of_lt (blk_lt BK253.out) : gb253 ≠ gb254));replace BK253:=Z_ (bB_ BK253.out hb);have NB254_253:=Z_ NB253_254.out.symm;clear hb hbox hg;have hnb5:=NB252_253.out;have hnc5:=NB253_252.out;have hnb6:=NB252_254.out;have hnc6:=NB254_252.out;obtain ⟨_,_,_,_,_,_,_,_⟩:=bc4 BK252.out;have hnb8:=NB254_253.out;have hnc8:=NB253_254.out;obtain ⟨_,_,_,_,_,_,_,_⟩:=bc4 BK254.out;obtain ⟨_,_,_,_,_,_,_,_⟩:=bc4 BK253.out))
 refine bodyPost_ret (results_cell_row rfl _ _ gb253 110 #[.int .i64 a0_0,.int .i64 a0_1,.int .i64 a0_2,.int .i64 a0_3] (0,0) _ rfl (by (with_reducible repeat first | apply bN_ | apply bD_ | apply bA_);apply fill4;(iterate 4 ((with_reducible repeat first | apply bN_ | apply bD_ | apply bA_);refine bF_ ?_ NB253_254.out _));(with_reducible repeat first | apply bN_ | apply bD_ | apply bA_);exact BK253.out) Tryz.underlying110 rfl (by kernel_rfl)) rfl ?_
 exact ⟨Er_,Lb_⟩
def laws_toWindow.f (a0_0 a0_1 : Int) : Option (Int × Int):=some (a0_0,a0_1)
set_option maxHeartbeats 8000000 in
set_option maxRecDepth 100000 in
theorem laws_toWindow.calls (a0_0 a0_1 r1 r2 : Int) (w : World) (h : laws_toWindow.f a0_0 a0_1 = some (r1,r2)) :
  Calls Tryz.prog 107 #[.agg #[.int .i64 a0_0,.int .i64 a0_1]] w fun e w' => e = .returned (.agg #[.int .i64 r1,.int .i64 r2]) ∧ Below w.heap.size w w':=by
 have hu140:=Tryz.underlying140
 have hu112:=Tryz.underlying112
 have HB:=Z_ (Below.refl w.heap.size w)
 unfold laws_toWindow.f at h
 have H:=h
 clear h
 simp only [Option.some.injEq,Prod.mk.injEq] at H
 obtain ⟨rfl,rfl⟩:=H
 go_enter Tryz.func107,Tryz.ntmps107
 go_wp2_with (first | ((with_reducible refine gD_ 1 rfl ?_);refine bx_ #[.int .i64 a0_0,.int .i64 a0_1] 140 ?_;intro gb255 hg w2 hbox hb;have BK255:=Z_ hbox;have GE255:=Z_ ((by rw [hg];exact (below_size HB.out) : w.heap.size ≤ gb255));replace HB:=Z_ (lP_ HB.out hb);clear hb hbox hg) | ((with_reducible refine gD_ 2 rfl ?_);refine bx_ #[.int .i64 0,.int .i64 0] 112 ?_;intro gb256 hg w3 hbox hb;have BK256:=Z_ hbox;have GE256:=Z_ ((by rw [hg];exact (below_size HB.out) : w.heap.size ≤ gb256));replace HB:=Z_ (lP_ HB.out hb);have NB255_256:=Z_ ((by rw [hg];exact Nat.ne_of_lt (blk_lt BK255.out) : gb255 ≠ gb256));replace BK255:=Z_ (bB_ BK255.out hb);have NB256_255:=Z_ NB255_256.out.symm;clear hb hbox hg) | ((with_reducible refine gD_ 3 rfl ?_);refine bx_ #[.int .i64 0,.int .i64 0] 112 ?_;intro gb257 hg w4 hbox hb;have BK257:=Z_ hbox;have GE257:=Z_ ((by rw [hg];exact (below_size HB.out) : w.heap.size ≤ gb257));replace HB:=Z_ (lP_ HB.out hb);have NB255_257:=Z_ ((by rw [hg];exact Nat.ne_of_lt (blk_lt BK255.out) : gb255 ≠ gb257));replace BK255:=Z_ (bB_ BK255.out hb);have NB257_255:=Z_ NB255_257.out.symm;have NB256_257:=Z_ ((by rw [hg];exact Nat.ne_of_lt (blk_lt BK256.out) : gb256 ≠ gb257));replace BK256:=Z_ (bB_ BK256.out hb);have NB257_256:=Z_ NB256_257.out.symm;clear hb hbox hg;have hnb5:=NB255_256.out;have hnc5:=NB256_255.out;have hnb6:=NB255_257.out;have hnc6:=NB257_255.out;obtain ⟨_,_,_,_⟩:=bc2 BK255.out;have hnb8:=NB257_256.out;have hnc8:=NB256_257.out;obtain ⟨_,_,_,_⟩:=bc2 BK257.out;obtain ⟨_,_,_,_⟩:=bc2 BK256.out))
 refine bodyPost_ret (results_cell_row rfl _ _ gb256 112 #[.int .i64 a0_0,.int .i64 a0_1] (0,0) _ rfl (by (with_reducible repeat first | apply bN_ | apply bD_ | apply bA_);apply fill2;(iterate 2 ((with_reducible repeat first | apply bN_ | apply bD_ | apply bA_);refine bF_ ?_ NB256_257.out _));(with_reducible repeat first | apply bN_ | apply bD_ | apply bA_);exact BK256.out) Tryz.underlying112 rfl (by kernel_rfl)) rfl ?_
 exact ⟨Er_,Lb_⟩
def laws_toTalk.f (a0_0 a0_1 a0_2 a0_3 a0_4 a0_5 a0_6 a0_7 a0_8 a0_9 a0_10 a0_11 a0_12 a0_13 a0_14 a0_15 a0_16 a0_17 a0_18 a0_19 : Int) : Option (Int × Int × Int × Int × Int × Int × Int × Int × Int × Int × Int × Int × Int × Int × Int × Int × Int × Int × Int × Int):=(laws_toKeys.f a0_11 a0_12 a0_13 a0_14).bind fun bt261 => ((laws_toWindow.f a0_18 a0_19).bind fun bt265 => (some (a0_0,a0_1,a0_2,a0_3,a0_4,a0_5,a0_6,a0_7,a0_8,a0_9,a0_10,bt261.1,bt261.2.1,bt261.2.2.1,bt261.2.2.2,a0_15,a0_16,a0_17,bt265.1,bt265.2)))
set_option maxHeartbeats 8000000 in
set_option maxRecDepth 100000 in
theorem laws_toTalk.calls (a0_0 a0_1 a0_2 a0_3 a0_4 a0_5 a0_6 a0_7 a0_8 a0_9 a0_10 a0_11 a0_12 a0_13 a0_14 a0_15 a0_16 a0_17 a0_18 a0_19 r1 r2 r3 r4 r5 r6 r7 r8 r9 r10 r11 r12 r13 r14 r15 r16 r17 r18 r19 r20 : Int) (w : World) (h : laws_toTalk.f a0_0 a0_1 a0_2 a0_3 a0_4 a0_5 a0_6 a0_7 a0_8 a0_9 a0_10 a0_11 a0_12 a0_13 a0_14 a0_15 a0_16 a0_17 a0_18 a0_19 = some (r1,r2,r3,r4,r5,r6,r7,r8,r9,r10,r11,r12,r13,r14,r15,r16,r17,r18,r19,r20)) :
  Calls Tryz.prog 96 #[.agg #[.int .i64 a0_0,.int .i64 a0_1,.int .i64 a0_2,.int .i64 a0_3,.int .i64 a0_4,.int .i64 a0_5,.int .i64 a0_6,.int .i64 a0_7,.int .i64 a0_8,.int .i64 a0_9,.int .i64 a0_10,.int .i64 a0_11,.int .i64 a0_12,.int .i64 a0_13,.int .i64 a0_14,.int .i64 a0_15,.int .i64 a0_16,.int .i64 a0_17,.int .i64 a0_18,.int .i64 a0_19]] w fun e w' => e = .returned (.agg #[.int .i64 r1,.int .i64 r2,.int .i64 r3,.int .i64 r4,.int .i64 r5,.int .i64 r6,.int .i64 r7,.int .i64 r8,.int .i64 r9,.int .i64 r10,.int .i64 r11,.int .i64 r12,.int .i64 r13,.int .i64 r14,.int .i64 r15,.int .i64 r16,.int .i64 r17,.int .i64 r18,.int .i64 r19,.int .i64 r20]) ∧ Below w.heap.size w w':=by
 have hu142:=Tryz.underlying142
 have hu114:=Tryz.underlying114
 have hu139:=Tryz.underlying139
 have hu110:=Tryz.underlying110
 have hu140:=Tryz.underlying140
 have hu112:=Tryz.underlying112
 have HB:=Z_ (Below.refl w.heap.size w)
 unfold laws_toTalk.f at h
 have H:=h
 clear h
 replace H:=bS_ H
 obtain ⟨⟨t261,t262,t263,t264⟩,A2,H⟩:=H
 try dsimp only at H
 replace H:=bS_ H
 obtain ⟨⟨t265,t266⟩,A3,H⟩:=H
 try dsimp only at H
 simp only [Option.some.injEq,Prod.mk.injEq] at H
 obtain ⟨rfl,rfl,rfl,rfl,rfl,rfl,rfl,rfl,rfl,rfl,rfl,rfl,rfl,rfl,rfl,rfl,rfl,rfl,rfl,rfl⟩:=H
 go_enter Tryz.func96,Tryz.ntmps96
 go_wp2_with (first | ((with_reducible refine gD_ 1 rfl ?_);refine bx_ #[.int .i64 a0_0,.int .i64 a0_1,.int .i64 a0_2,.int .i64 a0_3,.int .i64 a0_4,.int .i64 a0_5,.int .i64 a0_6,.int .i64 a0_7,.int .i64 a0_8,.int .i64 a0_9,.int .i64 a0_10,.int .i64 a0_11,.int .i64 a0_12,.int .i64 a0_13,.int .i64 a0_14,.int .i64 a0_15,.int .i64 a0_16,.int .i64 a0_17,.int .i64 a0_18,.int .i64 a0_19] 142 ?_;intro a7 hg w4 hbox hb;have a0:=Z_ hbox;have a8:=Z_ ((by rw [hg];exact (below_size HB.out) : w.heap.size ≤ a7));replace HB:=Z_ (lP_ HB.out hb);clear hb hbox hg) | ((with_reducible refine gD_ 2 rfl ?_);refine bx_ #[.int .i64 0,.int .i64 0,.int .i64 0,.int .i64 0,.int .i64 0,.int .i64 0,.int .i64 0,.int .i64 0,.int .i64 0,.int .i64 0,.int .i64 0,.int .i64 0,.int .i64 0,.int .i64 0,.int .i64 0,.int .i64 0,.int .i64 0,.int .i64 0,.int .i64 0,.int .i64 0] 114 ?_;intro a4 hg w5 hbox hb;have a1:=Z_ hbox;have a9:=Z_ ((by rw [hg];exact (below_size HB.out) : w.heap.size ≤ a4));replace HB:=Z_ (lP_ HB.out hb);have ab:=Z_ ((by rw [hg];exact Nat.ne_of_lt (blk_lt a0.out) : a7 ≠ a4));replace a0:=Z_ (bB_ a0.out hb);have ac:=Z_ ab.out.symm;clear hb hbox hg) | ((with_reducible refine gD_ 3 rfl ?_);refine bx_ #[.int .i64 0,.int .i64 0,.int .i64 0,.int .i64 0,.int .i64 0,.int .i64 0,.int .i64 0,.int .i64 0,.int .i64 0,.int .i64 0,.int .i64 0,.int .i64 0,.int .i64 0,.int .i64 0,.int .i64 0,.int .i64 0,.int .i64 0,.int .i64 0,.int .i64 0,.int .i64 0] 114 ?_;intro a5 hg w6 hbox hb;have a2:=Z_ hbox;have aa:=Z_ ((by rw [hg];exact (below_size HB.out) : w.heap.size ≤ a5));replace HB:=Z_ (lP_ HB.out hb);have a6:=Z_ ((by rw [hg];exact Nat.ne_of_lt (blk_lt a0.out) : a7 ≠ a5));replace a0:=Z_ (bB_ a0.out hb);have ad:=Z_ a6.out.symm;have a3:=Z_ ((by rw [hg];exact Nat.ne_of_lt (blk_lt a1.out) : a4 ≠ a5));replace a1:=Z_ (bB_ a1.out hb);have ae:=Z_ a3.out.symm;clear hb hbox hg;have aj:=ab.out;have ak:=ac.out;have al:=a6.out;have am:=ad.out;obtain ⟨_,_,_,_,_,_,_,_,_,_,_,_,_,_,_,_,_,_,_,_,_,_,_,_,_,_,_,_,_,_,_,_,_,_,_,_,_,_,_,_⟩:=bc20 a0.out;have ah:=ae.out;have ai:=a3.out;obtain ⟨_,_,_,_,_,_,_,_,_,_,_,_,_,_,_,_,_,_,_,_,_,_,_,_,_,_,_,_,_,_,_,_,_,_,_,_,_,_,_,_⟩:=bc20 a2.out) | ((with_reducible refine gate_callee (f:=106) rfl ?_);refine goesA_ (some 39) rfl rfl Tryz.func106 (by kernel_rfl) rfl #[.agg #[.int .i64 a0_11,.int .i64 a0_12,.int .i64 a0_13,.int .i64 a0_14]] rfl ?_;(with_reducible refine (laws_toKeys.calls a0_11 a0_12 a0_13 a0_14 t261 t262 t263 t264 _ A2.out).mono ?_);rintro e w12 ⟨rfl,hb⟩;refine ⟨_,rfl,?_⟩;replace a0:=Z_ (bB_ (g:=a7) (o:=.cells #[.int .i64 a0_0,.int .i64 a0_1,.int .i64 a0_2,.int .i64 a0_3,.int .i64 a0_4,.int .i64 a0_5,.int .i64 a0_6,.int .i64 a0_7,.int .i64 a0_8,.int .i64 a0_9,.int .i64 a0_10,.int .i64 a0_11,.int .i64 a0_12,.int .i64 a0_13,.int .i64 a0_14,.int .i64 a0_15,.int .i64 a0_16,.int .i64 a0_17,.int .i64 a0_18,.int .i64 a0_19] 142 (0,0)) (by (iterate 11 (refine bF_ ?_ a6.out _));exact a0.out) hb);replace a1:=Z_ (bB_ (g:=a4) (o:=.cells #[.int .i64 0,.int .i64 0,.int .i64 0,.int .i64 0,.int .i64 0,.int .i64 0,.int .i64 0,.int .i64 0,.int .i64 0,.int .i64 0,.int .i64 0,.int .i64 0,.int .i64 0,.int .i64 0,.int .i64 0,.int .i64 0,.int .i64 0,.int .i64 0,.int .i64 0,.int .i64 0] 114 (0,0)) (by (iterate 11 (refine bF_ ?_ a3.out _));exact a1.out) hb);replace a2:=Z_ (bB_ (g:=a5) (o:=.cells #[.int .i64 a0_0,.int .i64 a0_1,.int .i64 a0_2,.int .i64 a0_3,.int .i64 a0_4,.int .i64 a0_5,.int .i64 a0_6,.int .i64 a0_7,.int .i64 a0_8,.int .i64 a0_9,.int .i64 a0_10,.int .i64 0,.int .i64 0,.int .i64 0,.int .i64 0,.int .i64 0,.int .i64 0,.int .i64 0,.int .i64 0,.int .i64 0] 114 (0,0)) (by refine blk_put (cs:=#[.int .i64 a0_0,.int .i64 a0_1,.int .i64 a0_2,.int .i64 a0_3,.int .i64 a0_4,.int .i64 a0_5,.int .i64 a0_6,.int .i64 a0_7,.int .i64 a0_8,.int .i64 a0_9,.int .i64 0,.int .i64 0,.int .i64 0,.int .i64 0,.int .i64 0,.int .i64 0,.int .i64 0,.int .i64 0,.int .i64 0,.int .i64 0]) ?_ 10 _ rfl;refine blk_put (cs:=#[.int .i64 a0_0,.int .i64 a0_1,.int .i64 a0_2,.int .i64 a0_3,.int .i64 a0_4,.int .i64 a0_5,.int .i64 a0_6,.int .i64 a0_7,.int .i64 a0_8,.int .i64 0,.int .i64 0,.int .i64 0,.int .i64 0,.int .i64 0,.int .i64 0,.int .i64 0,.int .i64 0,.int .i64 0,.int .i64 0,.int .i64 0]) ?_ 9 _ rfl;refine blk_put (cs:=#[.int .i64 a0_0,.int .i64 a0_1,.int .i64 a0_2,.int .i64 a0_3,.int .i64 a0_4,.int .i64 a0_5,.int .i64 a0_6,.int .i64 a0_7,.int .i64 0,.int .i64 0,.int .i64 0,.int .i64 0,.int .i64 0,.int .i64 0,.int .i64 0,.int .i64 0,.int .i64 0,.int .i64 0,.int .i64 0,.int .i64 0]) ?_ 8 _ rfl;refine blk_put (cs:=#[.int .i64 a0_0,.int .i64 a0_1,.int .i64 a0_2,.int .i64 a0_3,.int .i64 a0_4,.int .i64 a0_5,.int .i64 a0_6,.int .i64 0,.int .i64 0,.int .i64 0,.int .i64 0,.int .i64 0,.int .i64 0,.int .i64 0,.int .i64 0,.int .i64 0,.int .i64 0,.int .i64 0,.int .i64 0,.int .i64 0]) ?_ 7 _ rfl;refine blk_put (cs:=#[.int .i64 a0_0,.int .i64 a0_1,.int .i64 a0_2,.int .i64 a0_3,.int .i64 a0_4,.int .i64 a0_5,.int .i64 0,.int .i64 0,.int .i64 0,.int .i64 0,.int .i64 0,.int .i64 0,.int .i64 0,.int .i64 0,.int .i64 0,.int .i64 0,.int .i64 0,.int .i64 0,.int .i64 0,.int .i64 0]) ?_ 6 _ rfl;refine blk_put (cs:=#[.int .i64 a0_0,.int .i64 a0_1,.int .i64 a0_2,.int .i64 a0_3,.int .i64 a0_4,.int .i64 0,.int .i64 0,.int .i64 0,.int .i64 0,.int .i64 0,.int .i64 0,.int .i64 0,.int .i64 0,.int .i64 0,.int .i64 0,.int .i64 0,.int .i64 0,.int .i64 0,.int .i64 0,.int .i64 0]) ?_ 5 _ rfl;refine blk_put (cs:=#[.int .i64 a0_0,.int .i64 a0_1,.int .i64 a0_2,.int .i64 a0_3,.int .i64 0,.int .i64 0,.int .i64 0,.int .i64 0,.int .i64 0,.int .i64 0,.int .i64 0,.int .i64 0,.int .i64 0,.int .i64 0,.int .i64 0,.int .i64 0,.int .i64 0,.int .i64 0,.int .i64 0,.int .i64 0]) ?_ 4 _ rfl;refine blk_put (cs:=#[.int .i64 a0_0,.int .i64 a0_1,.int .i64 a0_2,.int .i64 0,.int .i64 0,.int .i64 0,.int .i64 0,.int .i64 0,.int .i64 0,.int .i64 0,.int .i64 0,.int .i64 0,.int .i64 0,.int .i64 0,.int .i64 0,.int .i64 0,.int .i64 0,.int .i64 0,.int .i64 0,.int .i64 0]) ?_ 3 _ rfl;refine blk_put (cs:=#[.int .i64 a0_0,.int .i64 a0_1,.int .i64 0,.int .i64 0,.int .i64 0,.int .i64 0,.int .i64 0,.int .i64 0,.int .i64 0,.int .i64 0,.int .i64 0,.int .i64 0,.int .i64 0,.int .i64 0,.int .i64 0,.int .i64 0,.int .i64 0,.int .i64 0,.int .i64 0,.int .i64 0]) ?_ 2 _ rfl;refine blk_put (cs:=#[.int .i64 a0_0,.int .i64 0,.int .i64 0,.int .i64 0,.int .i64 0,.int .i64 0,.int .i64 0,.int .i64 0,.int .i64 0,.int .i64 0,.int .i64 0,.int .i64 0,.int .i64 0,.int .i64 0,.int .i64 0,.int .i64 0,.int .i64 0,.int .i64 0,.int .i64 0,.int .i64 0]) ?_ 1 _ rfl;refine blk_put (cs:=#[.int .i64 0,.int .i64 0,.int .i64 0,.int .i64 0,.int .i64 0,.int .i64 0,.int .i64 0,.int .i64 0,.int .i64 0,.int .i64 0,.int .i64 0,.int .i64 0,.int .i64 0,.int .i64 0,.int .i64 0,.int .i64 0,.int .i64 0,.int .i64 0,.int .i64 0,.int .i64 0]) ?_ 0 _ rfl;exact a2.out) hb);replace HB:=Z_ (lP_ Lb_ hb);(try clear hb);obtain ⟨_,_,_,_,_,_,_,_,_,_,_,_,_,_,_,_,_,_,_,_,_,_,_,_,_,_,_,_,_,_,_,_,_,_,_,_,_,_,_,_⟩:=bc20 a2.out;obtain ⟨_,_,_,_,_,_,_,_,_,_,_,_,_,_,_,_,_,_,_,_,_,_,_,_,_,_,_,_,_,_,_,_,_,_,_,_,_,_,_,_⟩:=bc20 a0.out) | ((with_reducible refine gate_callee (f:=107) rfl ?_);refine goesA_ (some 52) rfl rfl Tryz.func107 (by kernel_rfl) rfl #[.agg #[.int .i64 a0_18,.int .i64 a0_19]] rfl ?_;(with_reducible refine (laws_toWindow.calls a0_18 a0_19 t265 t266 _ A3.out).mono ?_);rintro e w15 ⟨rfl,hb⟩;refine ⟨_,rfl,?_⟩;replace a1:=Z_ (bB_ (g:=a4) (o:=.cells #[.int .i64 0,.int .i64 0,.int .i64 0,.int .i64 0,.int .i64 0,.int .i64 0,.int .i64 0,.int .i64 0,.int .i64 0,.int .i64 0,.int .i64 0,.int .i64 0,.int .i64 0,.int .i64 0,.int .i64 0,.int .i64 0,.int .i64 0,.int .i64 0,.int .i64 0,.int .i64 0] 114 (0,0)) (by (iterate 7 (refine bF_ ?_ a3.out _));exact a1.out) hb);replace a2:=Z_ (bB_ (g:=a5) (o:=.cells #[.int .i64 a0_0,.int .i64 a0_1,.int .i64 a0_2,.int .i64 a0_3,.int .i64 a0_4,.int .i64 a0_5,.int .i64 a0_6,.int .i64 a0_7,.int .i64 a0_8,.int .i64 a0_9,.int .i64 a0_10,.int .i64 t261,.int .i64 t262,.int .i64 t263,.int .i64 t264,.int .i64 a0_15,.int .i64 a0_16,.int .i64 a0_17,.int .i64 0,.int .i64 0] 114 (0,0)) (by refine blk_put (cs:=#[.int .i64 a0_0,.int .i64 a0_1,.int .i64 a0_2,.int .i64 a0_3,.int .i64 a0_4,.int .i64 a0_5,.int .i64 a0_6,.int .i64 a0_7,.int .i64 a0_8,.int .i64 a0_9,.int .i64 a0_10,.int .i64 t261,.int .i64 t262,.int .i64 t263,.int .i64 t264,.int .i64 a0_15,.int .i64 a0_16,.int .i64 0,.int .i64 0,.int .i64 0]) ?_ 17 _ rfl;refine blk_put (cs:=#[.int .i64 a0_0,.int .i64 a0_1,.int .i64 a0_2,.int .i64 a0_3,.int .i64 a0_4,.int .i64 a0_5,.int .i64 a0_6,.int .i64 a0_7,.int .i64 a0_8,.int .i64 a0_9,.int .i64 a0_10,.int .i64 t261,.int .i64 t262,.int .i64 t263,.int .i64 t264,.int .i64 a0_15,.int .i64 0,.int .i64 0,.int .i64 0,.int .i64 0]) ?_ 16 _ rfl;refine blk_put (cs:=#[.int .i64 a0_0,.int .i64 a0_1,.int .i64 a0_2,.int .i64 a0_3,.int .i64 a0_4,.int .i64 a0_5,.int .i64 a0_6,.int .i64 a0_7,.int .i64 a0_8,.int .i64 a0_9,.int .i64 a0_10,.int .i64 t261,.int .i64 t262,.int .i64 t263,.int .i64 t264,.int .i64 0,.int .i64 0,.int .i64 0,.int .i64 0,.int .i64 0]) ?_ 15 _ rfl;refine blk_put (cs:=#[.int .i64 a0_0,.int .i64 a0_1,.int .i64 a0_2,.int .i64 a0_3,.int .i64 a0_4,.int .i64 a0_5,.int .i64 a0_6,.int .i64 a0_7,.int .i64 a0_8,.int .i64 a0_9,.int .i64 a0_10,.int .i64 t261,.int .i64 t262,.int .i64 t263,.int .i64 0,.int .i64 0,.int .i64 0,.int .i64 0,.int .i64 0,.int .i64 0]) ?_ 14 _ rfl;refine blk_put (cs:=#[.int .i64 a0_0,.int .i64 a0_1,.int .i64 a0_2,.int .i64 a0_3,.int .i64 a0_4,.int .i64 a0_5,.int .i64 a0_6,.int .i64 a0_7,.int .i64 a0_8,.int .i64 a0_9,.int .i64 a0_10,.int .i64 t261,.int .i64 t262,.int .i64 0,.int .i64 0,.int .i64 0,.int .i64 0,.int .i64 0,.int .i64 0,.int .i64 0]) ?_ 13 _ rfl;refine blk_put (cs:=#[.int .i64 a0_0,.int .i64 a0_1,.int .i64 a0_2,.int .i64 a0_3,.int .i64 a0_4,.int .i64 a0_5,.int .i64 a0_6,.int .i64 a0_7,.int .i64 a0_8,.int .i64 a0_9,.int .i64 a0_10,.int .i64 t261,.int .i64 0,.int .i64 0,.int .i64 0,.int .i64 0,.int .i64 0,.int .i64 0,.int .i64 0,.int .i64 0]) ?_ 12 _ rfl;refine blk_put (cs:=#[.int .i64 a0_0,.int .i64 a0_1,.int .i64 a0_2,.int .i64 a0_3,.int .i64 a0_4,.int .i64 a0_5,.int .i64 a0_6,.int .i64 a0_7,.int .i64 a0_8,.int .i64 a0_9,.int .i64 a0_10,.int .i64 0,.int .i64 0,.int .i64 0,.int .i64 0,.int .i64 0,.int .i64 0,.int .i64 0,.int .i64 0,.int .i64 0]) ?_ 11 _ rfl;exact a2.out) hb);replace HB:=Z_ (lP_ Lb_ hb);(try clear hb);obtain ⟨_,_,_,_,_,_,_,_,_,_,_,_,_,_,_,_,_,_,_,_,_,_,_,_,_,_,_,_,_,_,_,_,_,_,_,_,_,_,_,_⟩:=bc20 a2.out;obtain ⟨_,_,_,_,_,_,_,_,_,_,_,_,_,_,_,_,_,_,_,_,_,_,_,_,_,_,_,_,_,_,_,_,_,_,_,_,_,_,_,_⟩:=bc20 a1.out) | ((with_reducible refine gate_load_ (t:=114) rfl ?_);refine load_row_ (by rfl) (by rfl) (by rfl) (rowAt_block (t:=114) (cs:=[.int .i64 a0_0,.int .i64 a0_1,.int .i64 a0_2,.int .i64 a0_3,.int .i64 a0_4,.int .i64 a0_5,.int .i64 a0_6,.int .i64 a0_7,.int .i64 a0_8,.int .i64 a0_9,.int .i64 a0_10,.int .i64 t261,.int .i64 t262,.int .i64 t263,.int .i64 t264,.int .i64 a0_15,.int .i64 a0_16,.int .i64 a0_17,.int .i64 t265,.int .i64 t266]) (blk_put (cs':=#[.int .i64 a0_0,.int .i64 a0_1,.int .i64 a0_2,.int .i64 a0_3,.int .i64 a0_4,.int .i64 a0_5,.int .i64 a0_6,.int .i64 a0_7,.int .i64 a0_8,.int .i64 a0_9,.int .i64 a0_10,.int .i64 t261,.int .i64 t262,.int .i64 t263,.int .i64 t264,.int .i64 a0_15,.int .i64 a0_16,.int .i64 a0_17,.int .i64 t265,.int .i64 t266]) (blk_put (cs':=#[.int .i64 a0_0,.int .i64 a0_1,.int .i64 a0_2,.int .i64 a0_3,.int .i64 a0_4,.int .i64 a0_5,.int .i64 a0_6,.int .i64 a0_7,.int .i64 a0_8,.int .i64 a0_9,.int .i64 a0_10,.int .i64 t261,.int .i64 t262,.int .i64 t263,.int .i64 t264,.int .i64 a0_15,.int .i64 a0_16,.int .i64 a0_17,.int .i64 t265,.int .i64 0]) a2.out 18 _ rfl) 19 _ rfl)) Tryz.underlying114 rfl size114_ ?_) | ((with_reducible refine gate_store (t:=114) rfl ?_);refine store_box_ (by rfl) (by rfl) (by rfl) (by rfl) (by rfl) (g:=a4) (t:=114) (old:=#[.int .i64 0,.int .i64 0,.int .i64 0,.int .i64 0,.int .i64 0,.int .i64 0,.int .i64 0,.int .i64 0,.int .i64 0,.int .i64 0,.int .i64 0,.int .i64 0,.int .i64 0,.int .i64 0,.int .i64 0,.int .i64 0,.int .i64 0,.int .i64 0,.int .i64 0,.int .i64 0]) (by (iterate 2 (refine bF_ ?_ a3.out _));exact a1.out) (by rfl) size114_ (by rfl) ?_;intro w99_ hst hU;have n0_:=Z_ (lU_ hU Lb_ a9.out);have BST:=Z_ hst;clear HB hU hst;have HB:=n0_;clear n0_))
 refine bodyPost_ret (results_cell_row rfl _ _ a4 114 #[.int .i64 a0_0,.int .i64 a0_1,.int .i64 a0_2,.int .i64 a0_3,.int .i64 a0_4,.int .i64 a0_5,.int .i64 a0_6,.int .i64 a0_7,.int .i64 a0_8,.int .i64 a0_9,.int .i64 a0_10,.int .i64 t261,.int .i64 t262,.int .i64 t263,.int .i64 t264,.int .i64 a0_15,.int .i64 a0_16,.int .i64 a0_17,.int .i64 t265,.int .i64 t266] (0,0) _ rfl BST.out Tryz.underlying114 rfl (by kernel_rfl)) rfl ?_
 exact ⟨Er_,Lb_⟩
def laws_toTalkS.l0 : Nat → List (S142) → List (S114) → Int → Option ((List (S114)))
 | 0,_,_,_ => none
 | k + 1,x0,x3,x4 => if x4 < (x0.length : Int) then (if 0 ≤ x4 then ((laws_toTalk.f ((rd_T142 x0 x4).f0) ((rd_T142 x0 x4).f1) ((rd_T142 x0 x4).f2) ((rd_T142 x0 x4).f3) ((rd_T142 x0 x4).f4) ((rd_T142 x0 x4).f5) ((rd_T142 x0 x4).f6) ((rd_T142 x0 x4).f7) ((rd_T142 x0 x4).f8) ((rd_T142 x0 x4).f9) ((rd_T142 x0 x4).f10) ((rd_T142 x0 x4).f11.f0) ((rd_T142 x0 x4).f11.f1) ((rd_T142 x0 x4).f11.f2) ((rd_T142 x0 x4).f11.f3) ((rd_T142 x0 x4).f12) ((rd_T142 x0 x4).f13) ((rd_T142 x0 x4).f14) ((rd_T142 x0 x4).f15.f0) ((rd_T142 x0 x4).f15.f1)).bind fun bt271 => (if x4 < (x3.length : Int) then (laws_toTalkS.l0 k x0 (x3.set (x4 : Int).toNat (⟨bt271.1,bt271.2.1,bt271.2.2.1,bt271.2.2.2.1,bt271.2.2.2.2.1,bt271.2.2.2.2.2.1,bt271.2.2.2.2.2.2.1,bt271.2.2.2.2.2.2.2.1,bt271.2.2.2.2.2.2.2.2.1,bt271.2.2.2.2.2.2.2.2.2.1,bt271.2.2.2.2.2.2.2.2.2.2.1,(⟨bt271.2.2.2.2.2.2.2.2.2.2.2.1,bt271.2.2.2.2.2.2.2.2.2.2.2.2.1,bt271.2.2.2.2.2.2.2.2.2.2.2.2.2.1,bt271.2.2.2.2.2.2.2.2.2.2.2.2.2.2.1⟩ : S110),bt271.2.2.2.2.2.2.2.2.2.2.2.2.2.2.2.1,bt271.2.2.2.2.2.2.2.2.2.2.2.2.2.2.2.2.1,bt271.2.2.2.2.2.2.2.2.2.2.2.2.2.2.2.2.2.1,(⟨bt271.2.2.2.2.2.2.2.2.2.2.2.2.2.2.2.2.2.2.1,bt271.2.2.2.2.2.2.2.2.2.2.2.2.2.2.2.2.2.2.2⟩ : S112)⟩ : S114)) (wrap64 (x4 + 1))) else (none))) else (none)) else (some x3)
def laws_toTalkS.f (k : Nat) (l0 : List (S142)) : Option ((List (S114))):=if 0 ≤ (l0.length : Int) then (if ((l0.length : Int) : Int).toNat ≤ 1759218604441 then (laws_toTalkS.l0 k l0 (List.replicate ((l0.length : Int) : Int).toNat z114) 0) else (none)) else (none)
set_option maxHeartbeats 8000000 in
set_option maxRecDepth 100000 in
theorem laws_toTalkS.calls (k : Nat) (A0 : Option Addr) (c0 : Nat) (l0 : List (S142)) (r : List (S114)) (w : World) (hr0 : Kd.C k142 w A0 l0.length l0) (hc0 : l0.length ≤ c0) (h : laws_toTalkS.f k l0 = some r) :
  Calls Tryz.prog 79 #[.slice A0 l0.length c0] w fun e w' => ∃ v0_ : Value,e = .returned (v0_) ∧ Kd.R k114 114 w' w.heap.size (fun _ => True) v0_ r ∧ Below w.heap.size w w':=by
 have hu142:=Tryz.underlying142
 have hu114:=Tryz.underlying114
 have a8:=Z_ hr0
 have a9:=Z_ hc0
 clear hr0 hc0
 have HB:=Z_ (Below.refl w.heap.size w)
 unfold laws_toTalkS.f at h
 have H:=h
 clear h
 replace H:=iN_ H
 obtain ⟨c2,H⟩:=H
 have c2b0:=eq_true c2
 have c2b1 : decide (0 ≤ (l0.length : Int)) = true:=decide_eq_true c2
 clear c2
 replace H:=iN_ H
 obtain ⟨c3,H⟩:=H
 have c3b0:=eq_true c3
 have c3b1 : decide (((l0.length : Int) : Int).toNat ≤ 1759218604441) = true:=decide_eq_true c3
 clear c3
 obtain ⟨y267,hy267⟩ : ∃ y_ : List (S114),y_ = (List.replicate ((l0.length : Int) : Int).toNat z114):=⟨_,rfl⟩
 replace H : (laws_toTalkS.l0 k l0 y267 0) = some r:=by first | (rw [hy267];with_reducible exact H) | (have H2_:=(Option.bind_some _ _).symm.trans H;rw [hy267];with_reducible exact H2_) | (have H2_:=(Option.bind_some _ _).symm.trans H;with_reducible exact H2_) | with_reducible exact H | (rw [hy267];exact H) | exact H
 have a2:=Z_ hy267
 clear hy267
 have H':=Z_ H
 clear H
 go_enter Tryz.func79,Tryz.ntmps79
 go_wp2_with (first | ((with_reducible refine gD_ 7 rfl ?_);refine Kd.R_make k114 _ 114 rfl (N:=7) rfl 74 _ _ rfl (l0.length : Int) rfl rfl Tryz.underlying74 (.agg #[(.int .i64 0),(.int .i64 0),(.int .i64 0),(.int .i64 0),(.int .i64 0),(.int .i64 0),(.int .i64 0),(.int .i64 0),(.int .i64 0),(.int .i64 0),(.int .i64 0),(.int .i64 0),(.int .i64 0),(.int .i64 0),(.int .i64 0),(.int .i64 0),(.int .i64 0),(.int .i64 0),(.int .i64 0),(.int .i64 0)]) 160 info114 rfl (by decide) (by omega) z114 (ok:=fun _ => True) (okp:=fun _ => True) (k114_mkM _ _ _ z114 ) (fun _ hk => hk) trivial (dA_) (Nat.le_trans (Nat.mul_le_mul_right _ (dA_ : (l0.length : Int).toNat ≤ 1759218604441)) (by omega)) (Below.refl _ _) (Nat.le_refl _) ?_;intro v268 w4 ho5 hb hg_ hnew_;clear hg_ hnew_;(first | rw [← a2.out] at ho5 | (simp only [Int.reduceToNat] at ho5;rw [← a2.out] at ho5));have a5:=Z_ (Kd.R_lower ho5 (below_size HB.out));replace HB:=Z_ (lP_ HB.out hb);clear hb ho5))
 go_loopg [4] k (fun kq v4 w' => ∃ (x3_1 : List (S114)) (x4_1 : Int),v4 = .int .i64 x4_1 ∧ Aside0 (laws_toTalkS.l0 kq l0 x3_1 x4_1 = some r) ∧ Aside0 (kq ≤ k) ∧ Aside0 (Kd.R k114 114 w' w.heap.size (fun _ => True) v268 x3_1) ∧ Aside0 (Below w.heap.size w w'))
 case atStart => exact ⟨(y267),(0),Sr_,H',⟨Nat.le_refl _⟩,⟨Rk_ a5⟩,⟨Lb_⟩⟩
 case round =>
  clear H'
  try clear c2
  try clear c2b0
  try clear c2b1
  try clear p2
  try clear c3
  try clear c3b0
  try clear c3b1
  obtain ⟨x3_1,x4_1,rfl,HA,HK1,a1,HB⟩:=hrel
  cases gk with
  | zero => exact absurd HA.out (by simp [laws_toTalkS.l0])
  | succ k1 =>
   have H:=HA.out
   clear HA
   simp only [laws_toTalkS.l0] at H
   replace H:=iD_ H
   obtain ⟨c6b0,H⟩ | ⟨c6b0,H⟩:=H
   rotate_left
   ·obtain rfl:=Option.some.inj H
    go_wp2
    go_ret
    exact ⟨_,Er_,Rk_ a1,Lb_⟩
   rotate_right
   replace H:=iM_ H
   obtain ⟨c7b0,H⟩:=H
   replace H:=bS_ H
   obtain ⟨⟨t271,t272,t273,t274,t275,t276,t277,t278,t279,t280,t281,t282,t283,t284,t285,t286,t287,t288,t289,t290⟩,A8,H⟩:=H
   try dsimp only at H
   replace H:=iM_ H
   obtain ⟨c9b0,H⟩:=H
   obtain ⟨y291,hy291⟩ : ∃ y_ : List (S114),y_ = (x3_1.set (x4_1 : Int).toNat (⟨t271,t272,t273,t274,t275,t276,t277,t278,t279,t280,t281,(⟨t282,t283,t284,t285⟩ : S110),t286,t287,t288,(⟨t289,t290⟩ : S112)⟩ : S114)):=⟨_,rfl⟩
   replace H : (laws_toTalkS.l0 k1 l0 y291 (wrap64 (x4_1 + 1))) = some r:=by first | (rw [hy291];with_reducible exact H) | (have H2_:=(Option.bind_some _ _).symm.trans H;rw [hy291];with_reducible exact H2_) | (have H2_:=(Option.bind_some _ _).symm.trans H;with_reducible exact H2_) | with_reducible exact H | (rw [hy291];exact H) | exact H
   have a6:=Z_ hy291
   clear hy291
   have H':=Z_ H
   clear H
   have p270 : 0 ≤ (x4_1 : Int):=dA_
   have q270 : x4_1 < (l0.length : Int):=dA_
   obtain ⟨ad270,e270,hL270⟩:=at_L142 a8.out x4_1 p270 q270
   cases e270
   replace hL270:=RowAt.below (B:=0) hL270 HB.out
   replace p270:=eq_true p270
   replace q270:=eq_true q270
   go_wp2_with (first | ((with_reducible refine gate_load_ (t:=142) rfl ?_);refine load_row_ (by rfl) (by rfl) (by rfl) hL270 Tryz.underlying142 rfl size142_ ?_) | ((with_reducible refine gate_callee (f:=96) rfl ?_);refine goesA_ (some 20) rfl rfl Tryz.func96 (by kernel_rfl) rfl #[.agg #[.int .i64 ((rd_T142 l0 x4_1).f0),.int .i64 ((rd_T142 l0 x4_1).f1),.int .i64 ((rd_T142 l0 x4_1).f2),.int .i64 ((rd_T142 l0 x4_1).f3),.int .i64 ((rd_T142 l0 x4_1).f4),.int .i64 ((rd_T142 l0 x4_1).f5),.int .i64 ((rd_T142 l0 x4_1).f6),.int .i64 ((rd_T142 l0 x4_1).f7),.int .i64 ((rd_T142 l0 x4_1).f8),.int .i64 ((rd_T142 l0 x4_1).f9),.int .i64 ((rd_T142 l0 x4_1).f10),.int .i64 ((rd_T142 l0 x4_1).f11.f0),.int .i64 ((rd_T142 l0 x4_1).f11.f1),.int .i64 ((rd_T142 l0 x4_1).f11.f2),.int .i64 ((rd_T142 l0 x4_1).f11.f3),.int .i64 ((rd_T142 l0 x4_1).f12),.int .i64 ((rd_T142 l0 x4_1).f13),.int .i64 ((rd_T142 l0 x4_1).f14),.int .i64 ((rd_T142 l0 x4_1).f15.f0),.int .i64 ((rd_T142 l0 x4_1).f15.f1)]] rfl ?_;(with_reducible refine (laws_toTalk.calls ((rd_T142 l0 x4_1).f0) ((rd_T142 l0 x4_1).f1) ((rd_T142 l0 x4_1).f2) ((rd_T142 l0 x4_1).f3) ((rd_T142 l0 x4_1).f4) ((rd_T142 l0 x4_1).f5) ((rd_T142 l0 x4_1).f6) ((rd_T142 l0 x4_1).f7) ((rd_T142 l0 x4_1).f8) ((rd_T142 l0 x4_1).f9) ((rd_T142 l0 x4_1).f10) ((rd_T142 l0 x4_1).f11.f0) ((rd_T142 l0 x4_1).f11.f1) ((rd_T142 l0 x4_1).f11.f2) ((rd_T142 l0 x4_1).f11.f3) ((rd_T142 l0 x4_1).f12) ((rd_T142 l0 x4_1).f13) ((rd_T142 l0 x4_1).f14) ((rd_T142 l0 x4_1).f15.f0) ((rd_T142 l0 x4_1).f15.f1) t271 t272 t273 t274 t275 t276 t277 t278 t279 t280 t281 t282 t283 t284 t285 t286 t287 t288 t289 t290 _ A8.out).mono ?_);rintro e w11 ⟨rfl,hb⟩;refine ⟨_,rfl,?_⟩;replace a1:=Z_ (Kd.R_below a1.out hb);replace HB:=Z_ (lP_ HB.out hb);(try clear hb);have p10 : 0 ≤ (x4_1 : Int):=dA_;have q10 : (x4_1 : Int) < ((x3_1.length : Int) : Int):=dA_;obtain ⟨go10,a3,eo10,a4,gl10,cl10,HG10⟩:=Kd.R_form a1.out (by omega);(first | cases eo10 | (injection eo10 with ea_ en_ ec_;(first | subst ea_ | (injection ea_ with ea_;subst ea_));subst ec_;clear en_));have a0:=Z_ a4;have GG10:=Z_ HG10;clear a4 gl10 HG10;replace p10:=eq_true p10;replace q10:=eq_true q10;have HX12:=Z_ (show Kd.R k114 114 w11 w.heap.size (fun _ => True) (.slice (some ⟨go10,0,none⟩) x3_1.length a3) x3_1 from a1.out);obtain ⟨ce12,hcl12,hM12,hcc12,hfr12⟩:=Kd.R_elem HX12.out z114 (x4_1 : Int) (dA_) (by have h_ : (x4_1 : Int) < ((x3_1.length : Int) : Int):=dA_;first | exact h_ | (have e_:=(Kd.R_reads' a1.out).1;omega) | simpa using h_);obtain rfl:=k114_openM hM12;have HP12:=Kd.R_seg HX12.out (x4_1 : Int) (dA_) (by have h_ : (x4_1 : Int) < ((x3_1.length : Int) : Int):=dA_;first | exact h_ | (have e_:=(Kd.R_reads' a1.out).1;omega) | simpa using h_) (seg:=[.int .i64 t271,.int .i64 t272,.int .i64 t273,.int .i64 t274,.int .i64 t275,.int .i64 t276,.int .i64 t277,.int .i64 t278,.int .i64 t279,.int .i64 t280,.int .i64 t281,.int .i64 t282,.int .i64 t283,.int .i64 t284,.int .i64 t285,.int .i64 t286,.int .i64 t287,.int .i64 t288,.int .i64 t289,.int .i64 t290]) (j:=0) hcl12 hcc12 (show 20 ≤ 20 from by decide) (k114_mkM _ _ _ (⟨t271,t272,t273,t274,t275,t276,t277,t278,t279,t280,t281,(⟨t282,t283,t284,t285⟩ : S110),t286,t287,t288,(⟨t289,t290⟩ : S112)⟩ : S114) ) (fun _ hk => hk);have hT12 : ∀ j,j < 20 → (w11.cell? ⟨go10,(x4_1 : Int).toNat * 20 + j,none⟩).isSome = true ∧ w11.frozen? ⟨go10,(x4_1 : Int).toNat * 20 + j,none⟩ = false:=fun j hj => ⟨(congrArg Option.isSome (hcc12 j _ (List.getElem?_eq_getElem hj))).trans rfl,hfr12 j⟩;clear hcl12 hcc12 hfr12 hM12) | ((with_reducible refine gate_store (t:=114) (p:=21) rfl ?_);refine store_event (t:=114) (p:=21) (v:=?vo_w13) (w1:=w11.setCells go10 ((x4_1 : Int).toNat * 20) [.int .i64 t271,.int .i64 t272,.int .i64 t273,.int .i64 t274,.int .i64 t275,.int .i64 t276,.int .i64 t277,.int .i64 t278,.int .i64 t279,.int .i64 t280,.int .i64 t281,.int .i64 t282,.int .i64 t283,.int .i64 t284,.int .i64 t285,.int .i64 t286,.int .i64 t287,.int .i64 t288,.int .i64 t289,.int .i64 t290]) ?hg ?ho ?hn ?hr ?_;(case ho => rfl);(case hg => rfl);(case hn => rfl);(case hr => exact exec_storeRow (by rfl) (by rfl) (by rfl) hT12 size114_ (by rfl));intro w13 hw;have hg : w11.grownBy w13 (some go10):=(by rw [hw];exact HP12.2);have hp_ : Kd.R k114 114 w13 w.heap.size (fun _ => True) (.slice (some ⟨go10,0,none⟩) x3_1.length a3) y291:=(by rw [hw,a6.out];exact HP12.1);clear HP12;replace a1:=Z_ (hp_);replace HB:=Z_ ((by rw [hw];exact lSs_ HB.out a0.out : Below w.heap.size w w13));clear hg hw hp_))
   go_roundg k1
   case measure => have:=HK1.out;omega
   case rel => exact ⟨(y291),(wrap64 (x4_1 + 1)),Sr_,H',⟨by have:=HK1.out;omega⟩,⟨Rk_ a1⟩,⟨Lb_⟩⟩
def laws_toGate.f (k : Nat) (a0_0 a0_1 : Int) (l0_2 : List (S142)) : Option (Int × Int × (List (S114))):=(laws_toTalkS.f k l0_2).bind fun t295 => (some (a0_0,a0_1,t295))
set_option maxHeartbeats 8000000 in
set_option maxRecDepth 100000 in
theorem laws_toGate.calls (k : Nat) (a0_0 a0_1 : Int) (A0_2 : Option Addr) (c0_2 : Nat) (l0_2 : List (S142)) (r1 r2 : Int) (r3 : List (S114)) (w : World) (hr0_2 : Kd.C k142 w A0_2 l0_2.length l0_2) (hc0_2 : l0_2.length ≤ c0_2) (h : laws_toGate.f k a0_0 a0_1 l0_2 = some (r1,r2,r3)) :
  Calls Tryz.prog 50 #[.agg #[.int .i64 a0_0,.int .i64 a0_1,.slice A0_2 l0_2.length c0_2]] w fun e w' => ∃ v2_ : Value,e = .returned (.agg #[.int .i64 r1,.int .i64 r2,v2_]) ∧ Kd.R k114 114 w' w.heap.size (fun _ => True) v2_ r3 ∧ Below w.heap.size w w':=by
 have hu71:=Tryz.underlying71
 have hu76:=Tryz.underlying76
 have HR0_2:=Z_ hr0_2
 have HC0_2:=Z_ hc0_2
 clear hr0_2 hc0_2
 have HB:=Z_ (Below.refl w.heap.size w)
 unfold laws_toGate.f at h
 have H:=h
 clear h
 replace H:=bS_ H
 obtain ⟨t295,A2,H⟩:=H
 simp only [Option.some.injEq,Prod.mk.injEq] at H
 obtain ⟨rfl,rfl,rfl⟩:=H
 go_enter Tryz.func50,Tryz.ntmps50
 go_wp2_with (first | ((with_reducible refine gD_ 1 rfl ?_);refine bx_ #[.int .i64 a0_0,.int .i64 a0_1,.slice A0_2 l0_2.length c0_2] 71 ?_;intro a9 hg w3 hbox hb;have a1:=Z_ hbox;have a6:=Z_ ((by rw [hg];exact (below_size HB.out) : w.heap.size ≤ a9));replace HB:=Z_ (lP_ HB.out hb);clear hb hbox hg) | ((with_reducible refine gD_ 2 rfl ?_);refine bx_ #[.int .i64 0,.int .i64 0,.slice none 0 0] 76 ?_;intro a3 hg w4 hbox hb;have a0:=Z_ hbox;have a7:=Z_ ((by rw [hg];exact (below_size HB.out) : w.heap.size ≤ a3));replace HB:=Z_ (lP_ HB.out hb);have aa:=Z_ ((by rw [hg];exact Nat.ne_of_lt (blk_lt a1.out) : a9 ≠ a3));replace a1:=Z_ (bB_ a1.out hb);have ab:=Z_ aa.out.symm;clear hb hbox hg) | ((with_reducible refine gD_ 3 rfl ?_);refine bx_ #[.int .i64 0,.int .i64 0,.slice none 0 0] 76 ?_;intro a5 hg w5 hbox hb;have a4:=Z_ hbox;have a8:=Z_ ((by rw [hg];exact (below_size HB.out) : w.heap.size ≤ a5));replace HB:=Z_ (lP_ HB.out hb);have ac:=Z_ ((by rw [hg];exact Nat.ne_of_lt (blk_lt a1.out) : a9 ≠ a5));replace a1:=Z_ (bB_ a1.out hb);have ad:=Z_ ac.out.symm;have a2:=Z_ ((by rw [hg];exact Nat.ne_of_lt (blk_lt a0.out) : a3 ≠ a5));replace a0:=Z_ (bB_ a0.out hb);have ae:=Z_ a2.out.symm;clear hb hbox hg;have aj:=aa.out;have ak:=ab.out;have al:=ac.out;have am:=ad.out;obtain ⟨_,_,_,_,_,_⟩:=bc3 a1.out;have an:=ae.out;have ao:=a2.out;obtain ⟨_,_,_,_,_,_⟩:=bc3 a4.out) | ((with_reducible refine gate_callee (f:=79) rfl ?_);refine goesA_ (some 12) rfl rfl Tryz.func79 (by kernel_rfl) rfl #[.slice A0_2 l0_2.length c0_2] rfl ?_;(with_reducible refine (laws_toTalkS.calls k _ _ l0_2 t295 _ ?side1 ?side2 A2.out).mono ?_);(case side1 => exact Kd.C_below HR0_2.out Lb_);(case side2 => exact HC0_2.out);rintro e w11 ⟨v296,rfl,ho0,hb⟩;refine ⟨_,rfl,?_⟩;have af:=Z_ (Kd.R_lower ho0 (below_size Lb_));replace a0:=Z_ (bB_ (g:=a3) (o:=.cells #[.int .i64 0,.int .i64 0,.slice none 0 0] 76 (0,0)) (by (iterate 2 (refine bF_ ?_ a2.out _));exact a0.out) hb);replace a4:=Z_ (bB_ (g:=a5) (o:=.cells #[.int .i64 a0_0,.int .i64 a0_1,.slice none 0 0] 76 (0,0)) (by refine blk_put (cs:=#[.int .i64 a0_0,.int .i64 0,.slice none 0 0]) ?_ 1 _ rfl;refine blk_put (cs:=#[.int .i64 0,.int .i64 0,.slice none 0 0]) ?_ 0 _ rfl;exact a4.out) hb);replace HB:=Z_ (lP_ Lb_ hb);(try clear hb);(try clear ho0);obtain ⟨ag,ah,eo12⟩:=Kd.R_slice af.out;subst eo12;obtain ⟨_,_,_,_,_,_⟩:=bc3 a4.out;obtain ⟨_,_,_,_,_,_⟩:=bc3 a0.out))
 refine bodyPost_ret (results_cell_row rfl _ _ a3 76 #[.int .i64 a0_0,.int .i64 a0_1,.slice ag t295.length ah] (0,0) _ rfl (by (with_reducible repeat first | apply bN_ | apply bD_ | apply bA_);apply fill3;(with_reducible repeat first | apply bN_ | apply bD_ | apply bA_);refine bF_ ?_ a2.out _;(with_reducible repeat first | apply bN_ | apply bD_ | apply bA_);exact a0.out) Tryz.underlying76 rfl (by kernel_rfl)) rfl ?_
 exact ⟨_,Er_,by (with_reducible repeat first | apply rA_ | apply rN_ | apply rD_);exact Kd.R_mono (rfar3 (g:=a3) (Kd.R_far (p:=⟨a5,2,none⟩) (Kd.R_types (Kd.R_types af.out a4.out (by decide)) a0.out (by decide)) (fun _ hk => hk.1.2) (.slice ag t295.length ah)) (fun _ hk => hk.2)) (fun _ hk => trivial),Lb_⟩
def laws_toGateS.l0 : Nat → List (S71) → List (S76) → Int → Option ((List (S76)))
 | 0,_,_,_ => none
 | k + 1,x0,x3,x4 => if x4 < (x0.length : Int) then (if 0 ≤ x4 then ((laws_toGate.f k ((rd_T71 x0 x4).f0) ((rd_T71 x0 x4).f1) ((rd_T71 x0 x4).f2)).bind fun bt302 => (if x4 < (x3.length : Int) then (laws_toGateS.l0 k x0 (x3.set (x4 : Int).toNat (⟨bt302.1,bt302.2.1,bt302.2.2⟩ : S76)) (wrap64 (x4 + 1))) else (none))) else (none)) else (some x3)
def laws_toGateS.f (k : Nat) (l0 : List (S71)) : Option ((List (S76))):=if 0 ≤ (l0.length : Int) then (if ((l0.length : Int) : Int).toNat ≤ 7036874417766 then (laws_toGateS.l0 k l0 (List.replicate ((l0.length : Int) : Int).toNat z76) 0) else (none)) else (none)
set_option maxHeartbeats 8000000 in
set_option maxRecDepth 100000 in
theorem laws_toGateS.calls (k : Nat) (A0 : Option Addr) (c0 : Nat) (l0 : List (S71)) (r : List (S76)) (w : World) (hr0 : Kd.C k71 w A0 l0.length l0) (hc0 : l0.length ≤ c0) (h : laws_toGateS.f k l0 = some r) :
  Calls Tryz.prog 24 #[.slice A0 l0.length c0] w fun e w' => ∃ v0_ : Value,e = .returned (v0_) ∧ Kd.S k76 76 w' w.heap.size (fun _ => True) v0_ r ∧ Below w.heap.size w w':=by
 have hu71:=Tryz.underlying71
 have hu76:=Tryz.underlying76
 have a9:=Z_ hr0
 have aa:=Z_ hc0
 clear hr0 hc0
 have HB:=Z_ (Below.refl w.heap.size w)
 unfold laws_toGateS.f at h
 have H:=h
 clear h
 replace H:=iN_ H
 obtain ⟨c2,H⟩:=H
 have c2b0:=eq_true c2
 have c2b1 : decide (0 ≤ (l0.length : Int)) = true:=decide_eq_true c2
 clear c2
 replace H:=iN_ H
 obtain ⟨c3,H⟩:=H
 have c3b0:=eq_true c3
 have c3b1 : decide (((l0.length : Int) : Int).toNat ≤ 7036874417766) = true:=decide_eq_true c3
 clear c3
 obtain ⟨y298,hy298⟩ : ∃ y_ : List (S76),y_ = (List.replicate ((l0.length : Int) : Int).toNat z76):=⟨_,rfl⟩
 replace H : (laws_toGateS.l0 k l0 y298 0) = some r:=by first | (rw [hy298];with_reducible exact H) | (have H2_:=(Option.bind_some _ _).symm.trans H;rw [hy298];with_reducible exact H2_) | (have H2_:=(Option.bind_some _ _).symm.trans H;with_reducible exact H2_) | with_reducible exact H | (rw [hy298];exact H) | exact H
 have a3:=Z_ hy298
 clear hy298
 have H':=Z_ H
 clear H
 go_enter Tryz.func24,Tryz.ntmps24
 go_wp2_with (first | ((with_reducible refine gD_ 7 rfl ?_);refine Kd.S_make k76 _ 76 rfl (N:=7) rfl 31 _ _ rfl (l0.length : Int) rfl rfl Tryz.underlying31 (.agg #[(.int .i64 0),(.int .i64 0),(.slice none 0 0)]) 40 info76 rfl (by decide) (by omega) z76 (ok:=fun _ => True) (okp:=fun _ => True) (k76_mkM _ _ _ z76 (Kd.R_nil _ _ _ _ _)) (fun _ hk => hk) trivial (dA_) (Nat.le_trans (Nat.mul_le_mul_right _ (dA_ : (l0.length : Int).toNat ≤ 7036874417766)) (by omega)) (Below.refl _ _) (Nat.le_refl _) ?_;intro v299 w4 ho5 hb hg_ hnew_;clear hg_ hnew_;(first | rw [← a3.out] at ho5 | (simp only [Int.reduceToNat] at ho5;rw [← a3.out] at ho5));have a6:=Z_ (Kd.S_lower ho5 (below_size HB.out));replace HB:=Z_ (lP_ HB.out hb);clear hb ho5))
 go_loopg [4] k (fun kq v4 w' => ∃ (x3_1 : List (S76)) (x4_1 : Int),v4 = .int .i64 x4_1 ∧ Aside0 (laws_toGateS.l0 kq l0 x3_1 x4_1 = some r) ∧ Aside0 (kq ≤ k) ∧ Aside0 (Kd.S k76 76 w' w.heap.size (fun _ => True) v299 x3_1) ∧ Aside0 (Below w.heap.size w w'))
 case atStart => exact ⟨(y298),(0),Sr_,H',⟨Nat.le_refl _⟩,⟨Sk_ a6⟩,⟨Lb_⟩⟩
 case round =>
  clear H'
  try clear c2
  try clear c2b0
  try clear c2b1
  try clear p2
  try clear c3
  try clear c3b0
  try clear c3b1
  obtain ⟨x3_1,x4_1,rfl,HA,HK1,a0,HB⟩:=hrel
  cases gk with
  | zero => exact absurd HA.out (by simp [laws_toGateS.l0])
  | succ k1 =>
   have H:=HA.out
   clear HA
   simp only [laws_toGateS.l0] at H
   replace H:=iD_ H
   obtain ⟨c6b0,H⟩ | ⟨c6b0,H⟩:=H
   rotate_left
   ·obtain rfl:=Option.some.inj H
    go_wp2
    go_ret
    exact ⟨_,Er_,Sk_ a0,Lb_⟩
   rotate_right
   replace H:=iM_ H
   obtain ⟨c7b0,H⟩:=H
   replace H:=bS_ H
   obtain ⟨⟨t302,t303,t304⟩,A8,H⟩:=H
   try dsimp only at H
   replace H:=iM_ H
   obtain ⟨c9b0,H⟩:=H
   obtain ⟨y307,hy307⟩ : ∃ y_ : List (S76),y_ = (x3_1.set (x4_1 : Int).toNat (⟨t302,t303,t304⟩ : S76)):=⟨_,rfl⟩
   replace H : (laws_toGateS.l0 k1 l0 y307 (wrap64 (x4_1 + 1))) = some r:=by first | (rw [hy307];with_reducible exact H) | (have H2_:=(Option.bind_some _ _).symm.trans H;rw [hy307];with_reducible exact H2_) | (have H2_:=(Option.bind_some _ _).symm.trans H;with_reducible exact H2_) | with_reducible exact H | (rw [hy307];exact H) | exact H
   have a7:=Z_ hy307
   clear hy307
   have H':=Z_ H
   clear H
   have p301 : 0 ≤ (x4_1 : Int):=dA_
   have q301 : x4_1 < (l0.length : Int):=dA_
   obtain ⟨ad301,A301_2,c301_2,e301,hx301_0,hx301_1,hx301_2,hl301_2,hi301_2⟩:=at_T71 a9.out x4_1 p301 q301
   cases e301
   replace hx301_0:=cB_ HB hx301_0
   replace hx301_1:=cB_ HB hx301_1
   replace hx301_2:=cB_ HB hx301_2
   have HR301_2:=Z_ hi301_2
   have HC301_2:=Z_ hl301_2
   clear hi301_2 hl301_2
   replace p301:=eq_true p301
   replace q301:=eq_true q301
   go_wp2_with (first | ((with_reducible refine gate_callee (f:=50) rfl ?_);refine goesA_ (some 20) rfl rfl Tryz.func50 (by kernel_rfl) rfl #[.agg #[.int .i64 ((rd_T71 l0 x4_1).f0),.int .i64 ((rd_T71 l0 x4_1).f1),.slice A301_2 ((rd_T71 l0 x4_1).f2).length c301_2]] rfl ?_;(with_reducible refine (laws_toGate.calls k1 ((rd_T71 l0 x4_1).f0) ((rd_T71 l0 x4_1).f1) _ _ ((rd_T71 l0 x4_1).f2) t302 t303 t304 _ ?side1 ?side2 A8.out).mono ?_);(case side1 => exact Cb_ HR301_2);(case side2 => exact HC301_2.out);rintro e w11 ⟨v305,rfl,ho0,hb⟩;refine ⟨_,rfl,?_⟩;replace a0:=Z_ (Kd.S_elder' (Sk_ a0) (Kd.R_base ho0) hb);have a1:=Z_ (Kd.R_lower ho0 (below_size HB.out));replace HB:=Z_ (lP_ HB.out hb);(try clear hb);(try clear ho0);have p10 : 0 ≤ (x4_1 : Int):=dA_;have q10 : (x4_1 : Int) < ((x3_1.length : Int) : Int):=dA_;obtain ⟨go10,a4,eo10,a5,gl10,cl10,HG10⟩:=Kd.S_form a0.out (by omega);(first | cases eo10 | (injection eo10 with ea_ en_ ec_;(first | subst ea_ | (injection ea_ with ea_;subst ea_));subst ec_;clear en_));have a2:=Z_ a5;have GG10:=Z_ HG10;clear a5 gl10 HG10;obtain ⟨_,ce10,hcl10,hM10,hcc10,hfr10,_,_⟩:=Kd.S_elem a0.out z76 (x4_1 : Int) p10 q10;obtain ⟨ve10_2,rfl,ge10_2⟩:=k76_openM hM10;have hx10_0 : w11.cell? ⟨go10,(x4_1 : Int).toNat * 3,none⟩ = some (.int .i64 ((rd_T76 x3_1 x4_1).f0)):=hcc10 0 _ rfl;have hx10_1 : w11.cell? ⟨go10,(x4_1 : Int).toNat * 3 + 1,none⟩ = some (.int .i64 ((rd_T76 x3_1 x4_1).f1)):=hcc10 1 _ rfl;have hx10_2 : w11.cell? ⟨go10,(x4_1 : Int).toNat * 3 + 2,none⟩ = some (ve10_2):=hcc10 2 _ rfl;have hf10_0 : w11.frozen? ⟨go10,(x4_1 : Int).toNat * 3,none⟩ = false:=hfr10 0;have hf10_1 : w11.frozen? ⟨go10,(x4_1 : Int).toNat * 3 + 1,none⟩ = false:=hfr10 1;have hf10_2 : w11.frozen? ⟨go10,(x4_1 : Int).toNat * 3 + 2,none⟩ = false:=hfr10 2;clear hcl10 hcc10 hfr10 hM10;replace p10:=eq_true p10;replace q10:=eq_true q10;have n_:=Z_ (Kd.S_mono (ok':=(fun k_ => some k_ ≠ (v305 : Value).ownBlock)) a0.out (fun k_ hk => hk.2));clear a0;have a0:=n_;clear n_;have HX12:=Z_ (show Kd.S k76 76 w11 w.heap.size (fun k_ => ((fun _ => True)) k_ ∧ ¬ ((fun k_ => some k_ = (v305 : Value).ownBlock)) k_) (.slice (some ⟨go10,0,none⟩) x3_1.length a4) x3_1 from (by (with_reducible repeat (first | apply Kd.S_alloc | apply Kd.S_drewN | apply Kd.S_drew));exact Kd.S_mono a0.out (fun k_ hk => ⟨trivial,fun e_ => hk e_⟩)));obtain ⟨oki12,ce12,hcl12,hM12,hcc12,hfr12,hoki12,hH12⟩:=Kd.S_elem HX12.out z76 (x4_1 : Int) (dA_) (by have h_ : (x4_1 : Int) < ((x3_1.length : Int) : Int):=dA_;first | exact h_ | (have e_:=(Kd.S_reads' a0.out).1;omega) | simpa using h_);obtain ⟨ve12_2,rfl,ge12_2⟩:=k76_openM hM12;have HP12:=Kd.S_seg hH12 (dA_) (by have h_ : (x4_1 : Int) < ((x3_1.length : Int) : Int):=dA_;first | exact h_ | (have e_:=(Kd.S_reads' a0.out).1;omega) | simpa using h_) (seg:=[.int .i64 t302,.int .i64 t303,v305]) (j:=0) (show 3 ≤ 3 from by decide) (x':=(⟨t302,t303,t304⟩ : S76)) (k76_mkM _ _ _ (⟨t302,t303,t304⟩ : S76) (Kd.R_mono (Kd.R_tight rfl (Kd.R_mono (ok':=fun k_ => ((fun _ => True)) k_ ∧ k_ ≠ go10) (Kd.R_apart' (a1.out) (Kd.S_typed a0.out) (by decide)) (fun k_ hk => ⟨trivial,fun e_ => (hk.2) (by rw [e_];rfl)⟩))) (fun _ h_ => Or.inr (h_)))) (fun _ hk => hk) (fun k_ hk_ => ((Kd.R_mono (ok':=fun k_ => ((fun _ => True)) k_ ∧ k_ ≠ go10) (Kd.R_apart' (a1.out) (Kd.S_typed a0.out) (by decide)) (fun k_ hk => ⟨trivial,fun e_ => (hk.2) (by rw [e_];rfl)⟩))).1 k_ hk_.symm);have hx12_0:=hcc12 0 _ rfl;(try simp only [show (k76).sz = 3 from rfl,Nat.mul_one,Nat.add_zero] at hx12_0);have hf12_0:=hfr12 0;(try simp only [show (k76).sz = 3 from rfl,Nat.mul_one,Nat.add_zero] at hf12_0);have hx12_1:=hcc12 1 _ rfl;(try simp only [show (k76).sz = 3 from rfl,Nat.mul_one,Nat.add_zero] at hx12_1);have hf12_1:=hfr12 1;(try simp only [show (k76).sz = 3 from rfl,Nat.mul_one,Nat.add_zero] at hf12_1);have hx12_2:=hcc12 2 _ rfl;(try simp only [show (k76).sz = 3 from rfl,Nat.mul_one,Nat.add_zero] at hx12_2);have hf12_2:=hfr12 2;(try simp only [show (k76).sz = 3 from rfl,Nat.mul_one,Nat.add_zero] at hf12_2);clear hcl12 hcc12 hfr12 hM12 hoki12 hH12) | ((with_reducible refine gate_store (t:=76) (p:=21) rfl ?_);obtain ⟨Av_,cv_,ev_⟩:=Kd.R_slice a1.out;subst ev_;refine store_event (t:=76) (p:=21) (v:=?vo_w13) (w1:=(((w11.setCell ⟨go10,(x4_1 : Int).toNat * 3,none⟩ (.int .i64 t302)).setCell ⟨go10,(x4_1 : Int).toNat * 3 + 1,none⟩ (.int .i64 t303)).setCell ⟨go10,(x4_1 : Int).toNat * 3 + 2,none⟩ (.slice Av_ t304.length cv_))) ?hg ?ho ?hn ?hr ?_;(case ho => rfl);(case hg => rfl);(case hn => rfl);(case hr => first | (go_simp;done) | (go_simp;rfl));intro w13 hw;have hg : w11.grownBy w13 (some go10):=(by rw [hw];exact HP12.2);have hp_ : Kd.S k76 76 w13 w.heap.size (fun _ => True) (.slice (some ⟨go10,0,none⟩) x3_1.length a4) y307:=(by rw [hw,a7.out];exact HP12.1);clear HP12;replace a0:=Z_ (hp_);replace HB:=Z_ ((by rw [hw];exact lS1_ (lS1_ (lS1_ (HB.out) a2.out) a2.out) a2.out : Below w.heap.size w w13));clear a1 hg hw hp_))
   go_roundg k1
   case measure => have:=HK1.out;omega
   case rel => exact ⟨(y307),(wrap64 (x4_1 + 1)),Sr_,H',⟨by have:=HK1.out;omega⟩,⟨Sk_ a0⟩,⟨Lb_⟩⟩
def laws_toInt64S.l0 : Nat → List Int → List Int → Int → Option (List Int)
 | 0,_,_,_ => none
 | k + 1,x0,x3,x4 => if x4 < (x0.length : Int) then (if 0 ≤ x4 then (if x4 < (x3.length : Int) then (laws_toInt64S.l0 k x0 (x3.set (x4 : Int).toNat (rd x0 x4)) (wrap64 (x4 + 1))) else (none)) else (none)) else (some x3)
def laws_toInt64S.f (k : Nat) (l0 : List Int) : Option (List Int):=if 0 ≤ (l0.length : Int) then (if ((l0.length : Int) : Int).toNat ≤ 35184372088832 then (laws_toInt64S.l0 k l0 (List.replicate ((l0.length : Int) : Int).toNat 0) 0) else (none)) else (none)
set_option maxHeartbeats 8000000 in
set_option maxRecDepth 100000 in
theorem laws_toInt64S.calls (k : Nat) (A0 : Option Addr) (c0 : Nat) (l0 r : List Int) (w : World) (hr0 : Kd.C (Kd.int .i64) w A0 l0.length l0) (hc0 : l0.length ≤ c0) (h : laws_toInt64S.f k l0 = some r) :
  Calls Tryz.prog 25 #[.slice A0 l0.length c0] w fun e w' => ∃ v0_ : Value,e = .returned (v0_) ∧ Kd.R (Kd.int .i64) 2 w' w.heap.size (fun _ => True) v0_ r ∧ Below w.heap.size w w':=by
 have a5:=Z_ hr0
 have a8:=Z_ hc0
 clear hr0 hc0
 have HB:=Z_ (Below.refl w.heap.size w)
 unfold laws_toInt64S.f at h
 have H:=h
 clear h
 replace H:=iN_ H
 obtain ⟨c2,H⟩:=H
 have c2b0:=eq_true c2
 have c2b1 : decide (0 ≤ (l0.length : Int)) = true:=decide_eq_true c2
 clear c2
 replace H:=iN_ H
 obtain ⟨c3,H⟩:=H
 have c3b0:=eq_true c3
 have c3b1 : decide (((l0.length : Int) : Int).toNat ≤ 35184372088832) = true:=decide_eq_true c3
 clear c3
 obtain ⟨y308,hy308⟩ : ∃ y_ : List Int,y_ = (List.replicate ((l0.length : Int) : Int).toNat 0):=⟨_,rfl⟩
 replace H : (laws_toInt64S.l0 k l0 y308 0) = some r:=by first | (rw [hy308];with_reducible exact H) | (have H2_:=(Option.bind_some _ _).symm.trans H;rw [hy308];with_reducible exact H2_) | (have H2_:=(Option.bind_some _ _).symm.trans H;with_reducible exact H2_) | with_reducible exact H | (rw [hy308];exact H) | exact H
 have a1:=Z_ hy308
 clear hy308
 have H':=Z_ H
 clear H
 go_enter Tryz.func25,Tryz.ntmps25
 go_wp2_with (first | ((with_reducible refine gD_ 7 rfl ?_);refine Kd.R_make (Kd.int .i64) _ 2 rfl (N:=7) rfl 24 _ _ rfl (l0.length : Int) rfl rfl Tryz.underlying24 (.int .i64 0) 8 info2 rfl (by decide) (by omega) 0 (ok:=fun _ => True) (okp:=fun _ => True) rfl (fun _ hk => hk) trivial (dA_) (Nat.le_trans (Nat.mul_le_mul_right _ (dA_ : (l0.length : Int).toNat ≤ 35184372088832)) (by omega)) (Below.refl _ _) (Nat.le_refl _) ?_;intro v309 w4 ho5 hb hg_ hnew_;clear hg_ hnew_;(first | rw [← a1.out] at ho5 | (simp only [Int.reduceToNat] at ho5;rw [← a1.out] at ho5));have a2:=Z_ (Kd.R_lower ho5 (below_size HB.out));replace HB:=Z_ (lP_ HB.out hb);clear hb ho5))
 go_loopg [4] k (fun kq v4 w' => ∃ (x3_1 : List Int) (x4_1 : Int),v4 = .int .i64 x4_1 ∧ Aside0 (laws_toInt64S.l0 kq l0 x3_1 x4_1 = some r) ∧ Aside0 (kq ≤ k) ∧ Aside0 (Kd.R (Kd.int .i64) 2 w' w.heap.size (fun _ => True) v309 x3_1) ∧ Aside0 (Below w.heap.size w w'))
 case atStart => exact ⟨(y308),(0),Sr_,H',⟨Nat.le_refl _⟩,⟨Rk_ a2⟩,⟨Lb_⟩⟩
 case round =>
  clear H'
  try clear c2
  try clear c2b0
  try clear c2b1
  try clear p2
  try clear c3
  try clear c3b0
  try clear c3b1
  obtain ⟨x3_1,x4_1,rfl,HA,HK1,a0,HB⟩:=hrel
  cases gk with
  | zero => exact absurd HA.out (by simp [laws_toInt64S.l0])
  | succ k1 =>
   have H:=HA.out
   clear HA
   simp only [laws_toInt64S.l0] at H
   replace H:=iD_ H
   obtain ⟨c6b0,H⟩ | ⟨c6b0,H⟩:=H
   rotate_left
   ·obtain rfl:=Option.some.inj H
    go_wp2
    go_ret
    exact ⟨_,Er_,Rk_ a0,Lb_⟩
   rotate_right
   replace H:=iM_ H
   obtain ⟨c7b0,H⟩:=H
   replace H:=iM_ H
   obtain ⟨c8b0,H⟩:=H
   obtain ⟨y312,hy312⟩ : ∃ y_ : List Int,y_ = (x3_1.set (x4_1 : Int).toNat (rd l0 x4_1)):=⟨_,rfl⟩
   replace H : (laws_toInt64S.l0 k1 l0 y312 (wrap64 (x4_1 + 1))) = some r:=by first | (rw [hy312];with_reducible exact H) | (have H2_:=(Option.bind_some _ _).symm.trans H;rw [hy312];with_reducible exact H2_) | (have H2_:=(Option.bind_some _ _).symm.trans H;with_reducible exact H2_) | with_reducible exact H | (rw [hy312];exact H) | exact H
   have a3:=Z_ hy312
   clear hy312
   have H':=Z_ H
   clear H
   have p311 : 0 ≤ (x4_1 : Int):=dA_
   have q311 : x4_1 < (l0.length : Int):=dA_
   obtain ⟨ad311,e311,hx311_0⟩:=Kd.at_int a5.out x4_1 p311 q311
   cases e311
   replace hx311_0:=cB_ HB hx311_0
   replace p311:=eq_true p311
   replace q311:=eq_true q311
   have p9 : 0 ≤ (x4_1 : Int):=dA_
   have q9 : (x4_1 : Int) < ((x3_1.length : Int) : Int):=dA_
   obtain ⟨go9,a6,eo9,a4,gl9,cl9,HG9⟩:=Kd.R_form a0.out (by omega)
   (first | cases eo9 | (injection eo9 with ea_ en_ ec_;(first | subst ea_ | (injection ea_ with ea_;subst ea_));subst ec_;clear en_))
   have a7:=Z_ a4
   have GG9:=Z_ HG9
   clear a4 gl9 HG9
   obtain ⟨hx9_0,hf9_0⟩:=Kd.R_celln 0 a0.out (x4_1 : Int) p9 q9
   replace p9:=eq_true p9
   replace q9:=eq_true q9
   have HP10:=Kd.R_putg a0.out (x4_1 : Int) (rd l0 x4_1)
   go_wp2_with (first | ((with_reducible refine gate_store (t:=2) (p:=20) rfl ?_);refine store_event (t:=2) (p:=20) (v:=?vo_w11) (w1:=(wr.setCell ⟨go9,(x4_1 : Int).toNat,none⟩ (.int .i64 (rd l0 x4_1)))) ?hg ?ho ?hn ?hr ?_;(case ho => rfl);(case hg => rfl);(case hn => rfl);(case hr => first | (go_simp;done) | (go_simp;rfl));intro w11 hw;have hg : wr.grownBy w11 (some go9):=(by rw [hw];exact HP10.2);have hp_ : Kd.R (Kd.int .i64) 2 w11 w.heap.size (fun _ => True) (.slice (some ⟨go9,0,none⟩) x3_1.length a6) y312:=(by rw [hw,a3.out];exact HP10.1);clear HP10;replace a0:=Z_ (hp_);replace HB:=Z_ ((by rw [hw];exact lS1_ (HB.out) a7.out : Below w.heap.size w w11));clear hg hw hp_))
   go_roundg k1
   case measure => have:=HK1.out;omega
   case rel => exact ⟨(y312),(wrap64 (x4_1 + 1)),Sr_,H',⟨by have:=HK1.out;omega⟩,⟨Rk_ a0⟩,⟨Lb_⟩⟩
def laws_toGiven.f (a0_0 a0_1 a0_2 a0_3 : Int) : Option (Int × Int × Int × Int):=some (a0_0,a0_1,a0_2,a0_3)
set_option maxHeartbeats 8000000 in
set_option maxRecDepth 100000 in
theorem laws_toGiven.calls (a0_0 a0_1 a0_2 a0_3 r1 r2 r3 r4 : Int) (w : World) (h : laws_toGiven.f a0_0 a0_1 a0_2 a0_3 = some (r1,r2,r3,r4)) :
  Calls Tryz.prog 51 #[.agg #[.int .i64 a0_0,.int .i64 a0_1,.int .i64 a0_2,.int .i64 a0_3]] w fun e w' => e = .returned (.agg #[.int .i64 r1,.int .i64 r2,.int .i64 r3,.int .i64 r4]) ∧ Below w.heap.size w w':=by
 have hu90:=Tryz.underlying90
 have hu88:=Tryz.underlying88
 have HB:=Z_ (Below.refl w.heap.size w)
 unfold laws_toGiven.f at h
 have H:=h
 clear h
 simp only [Option.some.injEq,Prod.mk.injEq] at H
 obtain ⟨rfl,rfl,rfl,rfl⟩:=H
 go_enter Tryz.func51,Tryz.ntmps51
 go_wp2_with (first | ((with_reducible refine gD_ 1 rfl ?_);refine bx_ #[.int .i64 a0_0,.int .i64 a0_1,.int .i64 a0_2,.int .i64 a0_3] 90 ?_;intro gb313 hg w2 hbox hb;have BK313:=Z_ hbox;have GE313:=Z_ ((by rw [hg];exact (below_size HB.out) : w.heap.size ≤ gb313));replace HB:=Z_ (lP_ HB.out hb);clear hb hbox hg) | ((with_reducible refine gD_ 2 rfl ?_);refine bx_ #[.int .i64 0,.int .i64 0,.int .i64 0,.int .i64 0] 88 ?_;intro gb314 hg w3 hbox hb;have BK314:=Z_ hbox;have GE314:=Z_ ((by rw [hg];exact (below_size HB.out) : w.heap.size ≤ gb314));replace HB:=Z_ (lP_ HB.out hb);have NB313_314:=Z_ ((by rw [hg];exact Nat.ne_of_lt (blk_lt BK313.out) : gb313 ≠ gb314));replace BK313:=Z_ (bB_ BK313.out hb);have NB314_313:=Z_ NB313_314.out.symm;clear hb hbox hg) | ((with_reducible refine gD_ 3 rfl ?_);refine bx_ #[.int .i64 0,.int .i64 0,.int .i64 0,.int .i64 0] 88 ?_;intro gb315 hg w4 hbox hb;have BK315:=Z_ hbox;have GE315:=Z_ ((by rw [hg];exact (below_size HB.out) : w.heap.size ≤ gb315));replace HB:=Z_ (lP_ HB.out hb);have NB313_315:=Z_ ((by rw [hg];exact Nat.ne_of_lt (blk_lt BK313.out) : gb313 ≠ gb315));replace BK313:=Z_ (bB_ BK313.out hb);have NB315_313:=Z_ NB313_315.out.symm;have NB314_315:=Z_ ((by rw [hg];exact Nat.ne_of_lt (blk_lt BK314.out) : gb314 ≠ gb315));replace BK314:=Z_ (bB_ BK314.out hb);have NB315_314:=Z_ NB314_315.out.symm;clear hb hbox hg;have hnb5:=NB313_314.out;have hnc5:=NB314_313.out;have hnb6:=NB313_315.out;have hnc6:=NB315_313.out;obtain ⟨_,_,_,_,_,_,_,_⟩:=bc4 BK313.out;have hnb8:=NB315_314.out;have hnc8:=NB314_315.out;obtain ⟨_,_,_,_,_,_,_,_⟩:=bc4 BK315.out;obtain ⟨_,_,_,_,_,_,_,_⟩:=bc4 BK314.out))
 refine bodyPost_ret (results_cell_row rfl _ _ gb314 88 #[.int .i64 a0_0,.int .i64 a0_1,.int .i64 a0_2,.int .i64 a0_3] (0,0) _ rfl (by (with_reducible repeat first | apply bN_ | apply bD_ | apply bA_);apply fill4;(iterate 4 ((with_reducible repeat first | apply bN_ | apply bD_ | apply bA_);refine bF_ ?_ NB314_315.out _));(with_reducible repeat first | apply bN_ | apply bD_ | apply bA_);exact BK314.out) Tryz.underlying88 rfl (by kernel_rfl)) rfl ?_
 exact ⟨Er_,Lb_⟩
def laws_toGivenS.l0 : Nat → List (S90) → List (S88) → Int → Option ((List (S88)))
 | 0,_,_,_ => none
 | k + 1,x0,x3,x4 => if x4 < (x0.length : Int) then (if 0 ≤ x4 then ((laws_toGiven.f ((rd_T90 x0 x4).f0) ((rd_T90 x0 x4).f1) ((rd_T90 x0 x4).f2) ((rd_T90 x0 x4).f3)).bind fun bt320 => (if x4 < (x3.length : Int) then (laws_toGivenS.l0 k x0 (x3.set (x4 : Int).toNat (⟨bt320.1,bt320.2.1,bt320.2.2.1,bt320.2.2.2⟩ : S88)) (wrap64 (x4 + 1))) else (none))) else (none)) else (some x3)
def laws_toGivenS.f (k : Nat) (l0 : List (S90)) : Option ((List (S88))):=if 0 ≤ (l0.length : Int) then (if ((l0.length : Int) : Int).toNat ≤ 8796093022208 then (laws_toGivenS.l0 k l0 (List.replicate ((l0.length : Int) : Int).toNat z88) 0) else (none)) else (none)
set_option maxHeartbeats 8000000 in
set_option maxRecDepth 100000 in
theorem laws_toGivenS.calls (k : Nat) (A0 : Option Addr) (c0 : Nat) (l0 : List (S90)) (r : List (S88)) (w : World) (hr0 : Kd.C k90 w A0 l0.length l0) (hc0 : l0.length ≤ c0) (h : laws_toGivenS.f k l0 = some r) :
  Calls Tryz.prog 26 #[.slice A0 l0.length c0] w fun e w' => ∃ v0_ : Value,e = .returned (v0_) ∧ Kd.R k88 88 w' w.heap.size (fun _ => True) v0_ r ∧ Below w.heap.size w w':=by
 have hu90:=Tryz.underlying90
 have hu88:=Tryz.underlying88
 have a8:=Z_ hr0
 have a9:=Z_ hc0
 clear hr0 hc0
 have HB:=Z_ (Below.refl w.heap.size w)
 unfold laws_toGivenS.f at h
 have H:=h
 clear h
 replace H:=iN_ H
 obtain ⟨c2,H⟩:=H
 have c2b0:=eq_true c2
 have c2b1 : decide (0 ≤ (l0.length : Int)) = true:=decide_eq_true c2
 clear c2
 replace H:=iN_ H
 obtain ⟨c3,H⟩:=H
 have c3b0:=eq_true c3
 have c3b1 : decide (((l0.length : Int) : Int).toNat ≤ 8796093022208) = true:=decide_eq_true c3
 clear c3
 obtain ⟨y316,hy316⟩ : ∃ y_ : List (S88),y_ = (List.replicate ((l0.length : Int) : Int).toNat z88):=⟨_,rfl⟩
 replace H : (laws_toGivenS.l0 k l0 y316 0) = some r:=by first | (rw [hy316];with_reducible exact H) | (have H2_:=(Option.bind_some _ _).symm.trans H;rw [hy316];with_reducible exact H2_) | (have H2_:=(Option.bind_some _ _).symm.trans H;with_reducible exact H2_) | with_reducible exact H | (rw [hy316];exact H) | exact H
 have a2:=Z_ hy316
 clear hy316
 have H':=Z_ H
 clear H
 go_enter Tryz.func26,Tryz.ntmps26
 go_wp2_with (first | ((with_reducible refine gD_ 7 rfl ?_);refine Kd.R_make k88 _ 88 rfl (N:=7) rfl 32 _ _ rfl (l0.length : Int) rfl rfl Tryz.underlying32 (.agg #[(.int .i64 0),(.int .i64 0),(.int .i64 0),(.int .i64 0)]) 32 info88 rfl (by decide) (by omega) z88 (ok:=fun _ => True) (okp:=fun _ => True) (k88_mkM _ _ _ z88 ) (fun _ hk => hk) trivial (dA_) (Nat.le_trans (Nat.mul_le_mul_right _ (dA_ : (l0.length : Int).toNat ≤ 8796093022208)) (by omega)) (Below.refl _ _) (Nat.le_refl _) ?_;intro v317 w4 ho5 hb hg_ hnew_;clear hg_ hnew_;(first | rw [← a2.out] at ho5 | (simp only [Int.reduceToNat] at ho5;rw [← a2.out] at ho5));have a5:=Z_ (Kd.R_lower ho5 (below_size HB.out));replace HB:=Z_ (lP_ HB.out hb);clear hb ho5))
 go_loopg [4] k (fun kq v4 w' => ∃ (x3_1 : List (S88)) (x4_1 : Int),v4 = .int .i64 x4_1 ∧ Aside0 (laws_toGivenS.l0 kq l0 x3_1 x4_1 = some r) ∧ Aside0 (kq ≤ k) ∧ Aside0 (Kd.R k88 88 w' w.heap.size (fun _ => True) v317 x3_1) ∧ Aside0 (Below w.heap.size w w'))
 case atStart => exact ⟨(y316),(0),Sr_,H',⟨Nat.le_refl _⟩,⟨Rk_ a5⟩,⟨Lb_⟩⟩
 case round =>
  clear H'
  try clear c2
  try clear c2b0
  try clear c2b1
  try clear p2
  try clear c3
  try clear c3b0
  try clear c3b1
  obtain ⟨x3_1,x4_1,rfl,HA,HK1,a0,HB⟩:=hrel
  cases gk with
  | zero => exact absurd HA.out (by simp [laws_toGivenS.l0])
  | succ k1 =>
   have H:=HA.out
   clear HA
   simp only [laws_toGivenS.l0] at H
   replace H:=iD_ H
   obtain ⟨c6b0,H⟩ | ⟨c6b0,H⟩:=H
   rotate_left
   ·obtain rfl:=Option.some.inj H
    go_wp2
    go_ret
    exact ⟨_,Er_,Rk_ a0,Lb_⟩
   rotate_right
   replace H:=iM_ H
   obtain ⟨c7b0,H⟩:=H
   replace H:=bS_ H
   obtain ⟨⟨t320,t321,t322,t323⟩,A8,H⟩:=H
   try dsimp only at H
   replace H:=iM_ H
   obtain ⟨c9b0,H⟩:=H
   obtain ⟨y324,hy324⟩ : ∃ y_ : List (S88),y_ = (x3_1.set (x4_1 : Int).toNat (⟨t320,t321,t322,t323⟩ : S88)):=⟨_,rfl⟩
   replace H : (laws_toGivenS.l0 k1 l0 y324 (wrap64 (x4_1 + 1))) = some r:=by first | (rw [hy324];with_reducible exact H) | (have H2_:=(Option.bind_some _ _).symm.trans H;rw [hy324];with_reducible exact H2_) | (have H2_:=(Option.bind_some _ _).symm.trans H;with_reducible exact H2_) | with_reducible exact H | (rw [hy324];exact H) | exact H
   have a6:=Z_ hy324
   clear hy324
   have H':=Z_ H
   clear H
   have p319 : 0 ≤ (x4_1 : Int):=dA_
   have q319 : x4_1 < (l0.length : Int):=dA_
   obtain ⟨ad319,e319,hx319_0,hx319_1,hx319_2,hx319_3⟩:=at_T90 a8.out x4_1 p319 q319
   cases e319
   replace hx319_0:=cB_ HB hx319_0
   replace hx319_1:=cB_ HB hx319_1
   replace hx319_2:=cB_ HB hx319_2
   replace hx319_3:=cB_ HB hx319_3
   replace p319:=eq_true p319
   replace q319:=eq_true q319
   go_wp2_with (first | ((with_reducible refine gate_callee (f:=51) rfl ?_);refine goesA_ (some 20) rfl rfl Tryz.func51 (by kernel_rfl) rfl #[.agg #[.int .i64 ((rd_T90 l0 x4_1).f0),.int .i64 ((rd_T90 l0 x4_1).f1),.int .i64 ((rd_T90 l0 x4_1).f2),.int .i64 ((rd_T90 l0 x4_1).f3)]] rfl ?_;(with_reducible refine (laws_toGiven.calls ((rd_T90 l0 x4_1).f0) ((rd_T90 l0 x4_1).f1) ((rd_T90 l0 x4_1).f2) ((rd_T90 l0 x4_1).f3) t320 t321 t322 t323 _ A8.out).mono ?_);rintro e w11 ⟨rfl,hb⟩;refine ⟨_,rfl,?_⟩;replace a0:=Z_ (Kd.R_below a0.out hb);replace HB:=Z_ (lP_ HB.out hb);(try clear hb);have p10 : 0 ≤ (x4_1 : Int):=dA_;have q10 : (x4_1 : Int) < ((x3_1.length : Int) : Int):=dA_;obtain ⟨go10,a3,eo10,a4,gl10,cl10,HG10⟩:=Kd.R_form a0.out (by omega);(first | cases eo10 | (injection eo10 with ea_ en_ ec_;(first | subst ea_ | (injection ea_ with ea_;subst ea_));subst ec_;clear en_));have a1:=Z_ a4;have GG10:=Z_ HG10;clear a4 gl10 HG10;obtain ⟨ce10,hcl10,hM10,hcc10,hfr10⟩:=Kd.R_elem a0.out z88 (x4_1 : Int) p10 q10;obtain rfl:=k88_openM hM10;have hx10_0 : w11.cell? ⟨go10,(x4_1 : Int).toNat * 4,none⟩ = some (.int .i64 ((rd_T88 x3_1 x4_1).f0)):=hcc10 0 _ rfl;have hx10_1 : w11.cell? ⟨go10,(x4_1 : Int).toNat * 4 + 1,none⟩ = some (.int .i64 ((rd_T88 x3_1 x4_1).f1)):=hcc10 1 _ rfl;have hx10_2 : w11.cell? ⟨go10,(x4_1 : Int).toNat * 4 + 2,none⟩ = some (.int .i64 ((rd_T88 x3_1 x4_1).f2)):=hcc10 2 _ rfl;have hx10_3 : w11.cell? ⟨go10,(x4_1 : Int).toNat * 4 + 3,none⟩ = some (.int .i64 ((rd_T88 x3_1 x4_1).f3)):=hcc10 3 _ rfl;have hf10_0 : w11.frozen? ⟨go10,(x4_1 : Int).toNat * 4,none⟩ = false:=hfr10 0;have hf10_1 : w11.frozen? ⟨go10,(x4_1 : Int).toNat * 4 + 1,none⟩ = false:=hfr10 1;have hf10_2 : w11.frozen? ⟨go10,(x4_1 : Int).toNat * 4 + 2,none⟩ = false:=hfr10 2;have hf10_3 : w11.frozen? ⟨go10,(x4_1 : Int).toNat * 4 + 3,none⟩ = false:=hfr10 3;clear hcl10 hcc10 hfr10 hM10;replace p10:=eq_true p10;replace q10:=eq_true q10;have HX12:=Z_ (show Kd.R k88 88 w11 w.heap.size (fun _ => True) (.slice (some ⟨go10,0,none⟩) x3_1.length a3) x3_1 from a0.out);obtain ⟨ce12,hcl12,hM12,hcc12,hfr12⟩:=Kd.R_elem HX12.out z88 (x4_1 : Int) (dA_) (by have h_ : (x4_1 : Int) < ((x3_1.length : Int) : Int):=dA_;first | exact h_ | (have e_:=(Kd.R_reads' a0.out).1;omega) | simpa using h_);obtain rfl:=k88_openM hM12;have HP12:=Kd.R_seg HX12.out (x4_1 : Int) (dA_) (by have h_ : (x4_1 : Int) < ((x3_1.length : Int) : Int):=dA_;first | exact h_ | (have e_:=(Kd.R_reads' a0.out).1;omega) | simpa using h_) (seg:=[.int .i64 t320,.int .i64 t321,.int .i64 t322,.int .i64 t323]) (j:=0) hcl12 hcc12 (show 4 ≤ 4 from by decide) (x':=(⟨t320,t321,t322,t323⟩ : S88)) (k88_mkM _ _ _ (⟨t320,t321,t322,t323⟩ : S88) ) (fun _ hk => hk);have hx12_0:=hcc12 0 _ rfl;(try simp only [show (k88).sz = 4 from rfl,Nat.mul_one,Nat.add_zero] at hx12_0);have hf12_0:=hfr12 0;(try simp only [show (k88).sz = 4 from rfl,Nat.mul_one,Nat.add_zero] at hf12_0);have hx12_1:=hcc12 1 _ rfl;(try simp only [show (k88).sz = 4 from rfl,Nat.mul_one,Nat.add_zero] at hx12_1);have hf12_1:=hfr12 1;(try simp only [show (k88).sz = 4 from rfl,Nat.mul_one,Nat.add_zero] at hf12_1);have hx12_2:=hcc12 2 _ rfl;(try simp only [show (k88).sz = 4 from rfl,Nat.mul_one,Nat.add_zero] at hx12_2);have hf12_2:=hfr12 2;(try simp only [show (k88).sz = 4 from rfl,Nat.mul_one,Nat.add_zero] at hf12_2);have hx12_3:=hcc12 3 _ rfl;(try simp only [show (k88).sz = 4 from rfl,Nat.mul_one,Nat.add_zero] at hx12_3);have hf12_3:=hfr12 3;(try simp only [show (k88).sz = 4 from rfl,Nat.mul_one,Nat.add_zero] at hf12_3);clear hcl12 hcc12 hfr12 hM12) | ((with_reducible refine gate_store (t:=88) (p:=21) rfl ?_);refine store_event (t:=88) (p:=21) (v:=?vo_w13) (w1:=((((w11.setCell ⟨go10,(x4_1 : Int).toNat * 4,none⟩ (.int .i64 t320)).setCell ⟨go10,(x4_1 : Int).toNat * 4 + 1,none⟩ (.int .i64 t321)).setCell ⟨go10,(x4_1 : Int).toNat * 4 + 2,none⟩ (.int .i64 t322)).setCell ⟨go10,(x4_1 : Int).toNat * 4 + 3,none⟩ (.int .i64 t323))) ?hg ?ho ?hn ?hr ?_;(case ho => rfl);(case hg => rfl);(case hn => rfl);(case hr => first | (go_simp;done) | (go_simp;rfl));intro w13 hw;have hg : w11.grownBy w13 (some go10):=(by rw [hw];exact HP12.2);have hp_ : Kd.R k88 88 w13 w.heap.size (fun _ => True) (.slice (some ⟨go10,0,none⟩) x3_1.length a3) y324:=(by rw [hw,a6.out];exact HP12.1);clear HP12;replace a0:=Z_ (hp_);replace HB:=Z_ ((by rw [hw];exact lS1_ (lS1_ (lS1_ (lS1_ (HB.out) a1.out) a1.out) a1.out) a1.out : Below w.heap.size w w13));clear hg hw hp_))
   go_roundg k1
   case measure => have:=HK1.out;omega
   case rel => exact ⟨(y324),(wrap64 (x4_1 + 1)),Sr_,H',⟨by have:=HK1.out;omega⟩,⟨Rk_ a0⟩,⟨Lb_⟩⟩
def laws_toNet.f (k : Nat) (l0_0 : List (S85)) (l0_1 : List (S71)) (l0_2 l0_3 : List Int) (l0_4 l0_5 : List (S90)) : Option ((List (S83)) × (List (S76)) × List Int × List Int × (List (S88)) × (List (S88))):=(laws_toTermS.f k l0_0).bind fun t328 => ((laws_toGateS.f k l0_1).bind fun t331 => ((laws_toInt64S.f k l0_2).bind fun t334 => ((laws_toInt64S.f k l0_3).bind fun t337 => ((laws_toGivenS.f k l0_4).bind fun t340 => ((laws_toGivenS.f k l0_5).bind fun t343 => (some (t328,t331,t334,t337,t340,t343)))))))
set_option maxHeartbeats 8000000 in
set_option maxRecDepth 100000 in
theorem laws_toNet.calls (k : Nat) (A0_0 : Option Addr) (c0_0 : Nat) (l0_0 : List (S85)) (A0_1 : Option Addr) (c0_1 : Nat) (l0_1 : List (S71)) (A0_2 : Option Addr) (c0_2 : Nat) (l0_2 : List Int) (A0_3 : Option Addr) (c0_3 : Nat) (l0_3 : List Int) (A0_4 : Option Addr) (c0_4 : Nat) (l0_4 : List (S90)) (A0_5 : Option Addr) (c0_5 : Nat) (l0_5 : List (S90)) (r1 : List (S83)) (r2 : List (S76)) (r3 r4 : List Int) (r5 r6 : List (S88)) (w : World) (hr0_0 : Kd.C k85 w A0_0 l0_0.length l0_0) (hc0_0 : l0_0.length ≤ c0_0) (hr0_1 : Kd.C k71 w A0_1 l0_1.length l0_1) (hc0_1 : l0_1.length ≤ c0_1) (hr0_2 : Kd.C (Kd.int .i64) w A0_2 l0_2.length l0_2) (hc0_2 : l0_2.length ≤ c0_2) (hr0_3 : Kd.C (Kd.int .i64) w A0_3 l0_3.length l0_3) (hc0_3 : l0_3.length ≤ c0_3) (hr0_4 : Kd.C k90 w A0_4 l0_4.length l0_4) (hc0_4 : l0_4.length ≤ c0_4) (hr0_5 : Kd.C k90 w A0_5 l0_5.length l0_5) (hc0_5 : l0_5.length ≤ c0_5) (h : laws_toNet.f k l0_0 l0_1 l0_2 l0_3 l0_4 l0_5 = some (r1,r2,r3,r4,r5,r6)) :
  Calls Tryz.prog 7 #[.agg #[.slice A0_0 l0_0.length c0_0,.slice A0_1 l0_1.length c0_1,.slice A0_2 l0_2.length c0_2,.slice A0_3 l0_3.length c0_3,.slice A0_4 l0_4.length c0_4,.slice A0_5 l0_5.length c0_5]] w fun e w' => ∃ v0_ v1_ v2_ v3_ v4_ v5_ : Value,e = .returned (.agg #[v0_,v1_,v2_,v3_,v4_,v5_]) ∧ Kd.R k83 83 w' w.heap.size (fun _ => True) v0_ r1 ∧ Kd.S k76 76 w' w.heap.size (fun _ => True) v1_ r2 ∧ Kd.R (Kd.int .i64) 2 w' w.heap.size (fun k_ => some k_ ≠ (v3_ : Value).ownBlock) v2_ r3 ∧ Kd.R (Kd.int .i64) 2 w' w.heap.size (fun k_ => some k_ ≠ (v2_ : Value).ownBlock) v3_ r4 ∧ Kd.R k88 88 w' w.heap.size (fun k_ => some k_ ≠ (v5_ : Value).ownBlock) v4_ r5 ∧ Kd.R k88 88 w' w.heap.size (fun k_ => some k_ ≠ (v4_ : Value).ownBlock) v5_ r6 ∧ Below w.heap.size w w':=by
 have hu27:=Tryz.underlying27
 have hu34:=Tryz.underlying34
 have HR0_0:=Z_ hr0_0
 have HC0_0:=Z_ hc0_0
 clear hr0_0 hc0_0
 have HR0_1:=Z_ hr0_1
 have HC0_1:=Z_ hc0_1
 clear hr0_1 hc0_1
 have HR0_2:=Z_ hr0_2
 have HC0_2:=Z_ hc0_2
 clear hr0_2 hc0_2
 have HR0_3:=Z_ hr0_3
 have HC0_3:=Z_ hc0_3
 clear hr0_3 hc0_3
 have HR0_4:=Z_ hr0_4
 have HC0_4:=Z_ hc0_4
 clear hr0_4 hc0_4
 have HR0_5:=Z_ hr0_5
 have HC0_5:=Z_ hc0_5
 clear hr0_5 hc0_5
 have HB:=Z_ (Below.refl w.heap.size w)
 unfold laws_toNet.f at h
 have H:=h
 clear h
 replace H:=bS_ H
 obtain ⟨t328,A2,H⟩:=H
 replace H:=bS_ H
 obtain ⟨t331,A3,H⟩:=H
 replace H:=bS_ H
 obtain ⟨t334,A4,H⟩:=H
 replace H:=bS_ H
 obtain ⟨t337,A5,H⟩:=H
 replace H:=bS_ H
 obtain ⟨t340,A6,H⟩:=H
 replace H:=bS_ H
 obtain ⟨t343,A7,H⟩:=H
 simp only [Option.some.injEq,Prod.mk.injEq] at H
 obtain ⟨rfl,rfl,rfl,rfl,rfl,rfl⟩:=H
 go_enter Tryz.func7,Tryz.ntmps7
 go_wp2_with (first | ((with_reducible refine gD_ 1 rfl ?_);refine bx_ #[.slice A0_0 l0_0.length c0_0,.slice A0_1 l0_1.length c0_1,.slice A0_2 l0_2.length c0_2,.slice A0_3 l0_3.length c0_3,.slice A0_4 l0_4.length c0_4,.slice A0_5 l0_5.length c0_5] 27 ?_;intro ak hg w8 hbox hb;have a3:=Z_ hbox;have a6:=Z_ ((by rw [hg];exact (below_size HB.out) : w.heap.size ≤ ak));replace HB:=Z_ (lP_ HB.out hb);clear hb hbox hg) | ((with_reducible refine gD_ 2 rfl ?_);refine bx_ #[.slice none 0 0,.slice none 0 0,.slice none 0 0,.slice none 0 0,.slice none 0 0,.slice none 0 0] 34 ?_;intro a4 hg w9 hbox hb;have a2:=Z_ hbox;have a7:=Z_ ((by rw [hg];exact (below_size HB.out) : w.heap.size ≤ a4));replace HB:=Z_ (lP_ HB.out hb);have au:=Z_ ((by rw [hg];exact Nat.ne_of_lt (blk_lt a3.out) : ak ≠ a4));replace a3:=Z_ (bB_ a3.out hb);have av:=Z_ au.out.symm;clear hb hbox hg) | ((with_reducible refine gD_ 3 rfl ?_);refine bx_ #[.slice none 0 0,.slice none 0 0,.slice none 0 0,.slice none 0 0,.slice none 0 0,.slice none 0 0] 34 ?_;intro a1 hg w10 hbox hb;have a0:=Z_ hbox;have a8:=Z_ ((by rw [hg];exact (below_size HB.out) : w.heap.size ≤ a1));replace HB:=Z_ (lP_ HB.out hb);have ac:=Z_ ((by rw [hg];exact Nat.ne_of_lt (blk_lt a3.out) : ak ≠ a1));replace a3:=Z_ (bB_ a3.out hb);have aw:=Z_ ac.out.symm;have aa:=Z_ ((by rw [hg];exact Nat.ne_of_lt (blk_lt a2.out) : a4 ≠ a1));replace a2:=Z_ (bB_ a2.out hb);have ax:=Z_ aa.out.symm;clear hb hbox hg;have b5:=au.out;have b6:=av.out;have b7:=ac.out;have b8:=aw.out;obtain ⟨_,_,_,_,_,_,_,_,_,_,_,_⟩:=bc6 a3.out) | ((with_reducible refine gate_callee (f:=23) rfl ?_);refine goesA_ (some 6) rfl rfl Tryz.func23 (by kernel_rfl) rfl #[.slice A0_0 l0_0.length c0_0] rfl ?_;(with_reducible refine (laws_toTermS.calls k _ _ l0_0 t328 _ ?side1 ?side2 A2.out).mono ?_);(case side1 => exact Cb_ HR0_0);(case side2 => exact HC0_0.out);rintro e w14 ⟨v329,rfl,ho0,hb⟩;refine ⟨_,rfl,?_⟩;have a5:=Z_ (Kd.R_lower ho0 (below_size HB.out));replace a3:=Z_ (bB_ a3.out hb);replace a2:=Z_ (bB_ a2.out hb);replace a0:=Z_ (bB_ a0.out hb);replace HB:=Z_ (lP_ HB.out hb);(try clear hb);(try clear ho0);obtain ⟨ad,ae,eo15⟩:=Kd.R_slice a5.out;subst eo15;have b9:=ax.out;have ba:=aa.out;obtain ⟨_,_,_,_,_,_,_,_,_,_,_,_⟩:=bc6 a0.out;obtain ⟨_,_,_,_,_,_,_,_,_,_,_,_⟩:=bc6 a3.out) | ((with_reducible refine gate_callee (f:=24) rfl ?_);refine goesA_ (some 10) rfl rfl Tryz.func24 (by kernel_rfl) rfl #[.slice A0_1 l0_1.length c0_1] rfl ?_;(with_reducible refine (laws_toGateS.calls k _ _ l0_1 t331 _ ?side1 ?side2 A3.out).mono ?_);(case side1 => exact Kd.C_below HR0_1.out Lb_);(case side2 => exact HC0_1.out);rintro e w19 ⟨v332,rfl,ho0,hb⟩;refine ⟨_,rfl,?_⟩;replace a5:=Z_ (Kd.R_below (Kd.R_mono (Kd.R_far (p:=⟨a1,0,none⟩) (Kd.R_types a5.out a0.out (by decide)) (fun _ hk => hk.2) (.slice ad t328.length ae)) (fun _ h_ => h_.1)) hb);have a9:=Z_ (Kd.S_lower ho0 (below_size Lb_));replace a3:=Z_ (bB_ (g:=ak) (o:=.cells #[.slice A0_0 l0_0.length c0_0,.slice A0_1 l0_1.length c0_1,.slice A0_2 l0_2.length c0_2,.slice A0_3 l0_3.length c0_3,.slice A0_4 l0_4.length c0_4,.slice A0_5 l0_5.length c0_5] 27 (0,0)) (by refine bF_ ?_ ac.out _;exact a3.out) hb);replace a2:=Z_ (bB_ (g:=a4) (o:=.cells #[.slice none 0 0,.slice none 0 0,.slice none 0 0,.slice none 0 0,.slice none 0 0,.slice none 0 0] 34 (0,0)) (by refine bF_ ?_ aa.out _;exact a2.out) hb);replace a0:=Z_ (bB_ (g:=a1) (o:=.cells #[.slice ad t328.length ae,.slice none 0 0,.slice none 0 0,.slice none 0 0,.slice none 0 0,.slice none 0 0] 34 (0,0)) (by refine blk_put (cs:=#[.slice none 0 0,.slice none 0 0,.slice none 0 0,.slice none 0 0,.slice none 0 0,.slice none 0 0]) ?_ 0 _ rfl;exact a0.out) hb);replace HB:=Z_ (lP_ Lb_ hb);(try clear hb);(try clear ho0);obtain ⟨af,ag,eo20⟩:=Kd.S_slice a9.out;subst eo20;obtain ⟨_,_,_,_,_,_,_,_,_,_,_,_⟩:=bc6 a0.out;obtain ⟨_,_,_,_,_,_,_,_,_,_,_,_⟩:=bc6 a3.out) | ((with_reducible refine gate_callee (f:=25) rfl ?_);refine goesA_ (some 14) rfl rfl Tryz.func25 (by kernel_rfl) rfl #[.slice A0_2 l0_2.length c0_2] rfl ?_;(with_reducible refine (laws_toInt64S.calls k _ _ l0_2 t334 _ ?side1 ?side2 A4.out).mono ?_);(case side1 => exact Kd.C_below HR0_2.out Lb_);(case side2 => exact HC0_2.out);rintro e w23 ⟨v335,rfl,ho0,hb⟩;refine ⟨_,rfl,?_⟩;replace a5:=Z_ (Kd.R_below (Kd.R_mono (Kd.R_far (p:=⟨a1,1,none⟩) (Kd.R_types a5.out a0.out (by decide)) (fun _ hk => hk.2) (.slice af t331.length ag)) (fun _ h_ => h_.1)) hb);replace a9:=Z_ (Kd.S_below (by (with_reducible repeat (first | apply Kd.S_alloc | apply Kd.S_drewN | apply Kd.S_drew));exact (Kd.S_mono (Kd.S_far (p:=⟨a1,1,none⟩) (Kd.S_types a9.out a0.out (by decide)) (fun _ hk => hk.2) (.slice af t331.length ag)) (fun _ h_ => h_.1))) hb);have ab:=Z_ (Kd.R_lower ho0 (below_size Lb_));replace a3:=Z_ (bB_ (g:=ak) (o:=.cells #[.slice A0_0 l0_0.length c0_0,.slice A0_1 l0_1.length c0_1,.slice A0_2 l0_2.length c0_2,.slice A0_3 l0_3.length c0_3,.slice A0_4 l0_4.length c0_4,.slice A0_5 l0_5.length c0_5] 27 (0,0)) (by refine bF_ ?_ ac.out _;exact a3.out) hb);replace a2:=Z_ (bB_ (g:=a4) (o:=.cells #[.slice none 0 0,.slice none 0 0,.slice none 0 0,.slice none 0 0,.slice none 0 0,.slice none 0 0] 34 (0,0)) (by refine bF_ ?_ aa.out _;exact a2.out) hb);replace a0:=Z_ (bB_ (g:=a1) (o:=.cells #[.slice ad t328.length ae,.slice af t331.length ag,.slice none 0 0,.slice none 0 0,.slice none 0 0,.slice none 0 0] 34 (0,0)) (by refine blk_put (cs:=#[.slice ad t328.length ae,.slice none 0 0,.slice none 0 0,.slice none 0 0,.slice none 0 0,.slice none 0 0]) ?_ 1 _ rfl;exact a0.out) hb);replace HB:=Z_ (lP_ Lb_ hb);(try clear hb);(try clear ho0);obtain ⟨ah,ai,eo24⟩:=Kd.R_slice ab.out;subst eo24;obtain ⟨_,_,_,_,_,_,_,_,_,_,_,_⟩:=bc6 a0.out;obtain ⟨_,_,_,_,_,_,_,_,_,_,_,_⟩:=bc6 a3.out) | ((with_reducible refine gate_callee (f:=25) rfl ?_);refine goesA_ (some 18) rfl rfl Tryz.func25 (by kernel_rfl) rfl #[.slice A0_3 l0_3.length c0_3] rfl ?_;(with_reducible refine (laws_toInt64S.calls k _ _ l0_3 t337 _ ?side1 ?side2 A5.out).mono ?_);(case side1 => exact Kd.C_below HR0_3.out Lb_);(case side2 => exact HC0_3.out);rintro e w27 ⟨v338,rfl,ho0,hb⟩;refine ⟨_,rfl,?_⟩;replace a5:=Z_ (Kd.R_below (Kd.R_mono (Kd.R_far (p:=⟨a1,2,none⟩) (Kd.R_types a5.out a0.out (by decide)) (fun _ hk => hk.2) (.slice ah t334.length ai)) (fun _ h_ => h_.1)) hb);replace a9:=Z_ (Kd.S_below (by (with_reducible repeat (first | apply Kd.S_alloc | apply Kd.S_drewN | apply Kd.S_drew));exact (Kd.S_mono (Kd.S_far (p:=⟨a1,2,none⟩) (Kd.S_types a9.out a0.out (by decide)) (fun _ hk => hk.2) (.slice ah t334.length ai)) (fun _ h_ => h_.1))) hb);have aj:=Z_ (Kd.R_lower (Kd.R_new' ho0 (Kd.R_lt (Kd.R_mono (Kd.R_far (p:=⟨a1,2,none⟩) (Kd.R_types ab.out a0.out (by decide)) (fun _ hk => hk.2) (.slice ah t334.length ai)) (fun _ h_ => h_.1)))) (below_size Lb_));replace ab:=Z_ (Kd.R_elder' (Kd.R_mono (Kd.R_far (p:=⟨a1,2,none⟩) (Kd.R_types ab.out a0.out (by decide)) (fun _ hk => hk.2) (.slice ah t334.length ai)) (fun _ h_ => h_.1)) (Kd.R_base ho0) hb);replace a3:=Z_ (bB_ (g:=ak) (o:=.cells #[.slice A0_0 l0_0.length c0_0,.slice A0_1 l0_1.length c0_1,.slice A0_2 l0_2.length c0_2,.slice A0_3 l0_3.length c0_3,.slice A0_4 l0_4.length c0_4,.slice A0_5 l0_5.length c0_5] 27 (0,0)) (by refine bF_ ?_ ac.out _;exact a3.out) hb);replace a2:=Z_ (bB_ (g:=a4) (o:=.cells #[.slice none 0 0,.slice none 0 0,.slice none 0 0,.slice none 0 0,.slice none 0 0,.slice none 0 0] 34 (0,0)) (by refine bF_ ?_ aa.out _;exact a2.out) hb);replace a0:=Z_ (bB_ (g:=a1) (o:=.cells #[.slice ad t328.length ae,.slice af t331.length ag,.slice ah t334.length ai,.slice none 0 0,.slice none 0 0,.slice none 0 0] 34 (0,0)) (by refine blk_put (cs:=#[.slice ad t328.length ae,.slice af t331.length ag,.slice none 0 0,.slice none 0 0,.slice none 0 0,.slice none 0 0]) ?_ 2 _ rfl;exact a0.out) hb);replace HB:=Z_ (lP_ Lb_ hb);(try clear hb);(try clear ho0);obtain ⟨al,am,eo28⟩:=Kd.R_slice aj.out;subst eo28;obtain ⟨_,_,_,_,_,_,_,_,_,_,_,_⟩:=bc6 a0.out;obtain ⟨_,_,_,_,_,_,_,_,_,_,_,_⟩:=bc6 a3.out) | ((with_reducible refine gate_callee (f:=26) rfl ?_);refine goesA_ (some 22) rfl rfl Tryz.func26 (by kernel_rfl) rfl #[.slice A0_4 l0_4.length c0_4] rfl ?_;(with_reducible refine (laws_toGivenS.calls k _ _ l0_4 t340 _ ?side1 ?side2 A6.out).mono ?_);(case side1 => exact Kd.C_below HR0_4.out Lb_);(case side2 => exact HC0_4.out);rintro e w31 ⟨v341,rfl,ho0,hb⟩;refine ⟨_,rfl,?_⟩;replace a5:=Z_ (Kd.R_below (Kd.R_mono (Kd.R_far (p:=⟨a1,3,none⟩) (Kd.R_types a5.out a0.out (by decide)) (fun _ hk => hk.2) (.slice al t337.length am)) (fun _ h_ => h_.1)) hb);replace a9:=Z_ (Kd.S_below (by (with_reducible repeat (first | apply Kd.S_alloc | apply Kd.S_drewN | apply Kd.S_drew));exact (Kd.S_mono (Kd.S_far (p:=⟨a1,3,none⟩) (Kd.S_types a9.out a0.out (by decide)) (fun _ hk => hk.2) (.slice al t337.length am)) (fun _ h_ => h_.1))) hb);replace ab:=Z_ (Kd.R_below (Kd.R_mono (Kd.R_far (p:=⟨a1,3,none⟩) (Kd.R_types ab.out a0.out (by decide)) (fun _ hk => hk.2) (.slice al t337.length am)) (fun _ h_ => h_.1)) hb);replace aj:=Z_ (Kd.R_below (Kd.R_mono (Kd.R_far (p:=⟨a1,3,none⟩) (Kd.R_types aj.out a0.out (by decide)) (fun _ hk => hk.2) (.slice al t337.length am)) (fun _ h_ => h_.1)) hb);have ar:=Z_ (Kd.R_lower ho0 (below_size Lb_));replace a3:=Z_ (bB_ (g:=ak) (o:=.cells #[.slice A0_0 l0_0.length c0_0,.slice A0_1 l0_1.length c0_1,.slice A0_2 l0_2.length c0_2,.slice A0_3 l0_3.length c0_3,.slice A0_4 l0_4.length c0_4,.slice A0_5 l0_5.length c0_5] 27 (0,0)) (by refine bF_ ?_ ac.out _;exact a3.out) hb);replace a2:=Z_ (bB_ (g:=a4) (o:=.cells #[.slice none 0 0,.slice none 0 0,.slice none 0 0,.slice none 0 0,.slice none 0 0,.slice none 0 0] 34 (0,0)) (by refine bF_ ?_ aa.out _;exact a2.out) hb);replace a0:=Z_ (bB_ (g:=a1) (o:=.cells #[.slice ad t328.length ae,.slice af t331.length ag,.slice ah t334.length ai,.slice al t337.length am,.slice none 0 0,.slice none 0 0] 34 (0,0)) (by refine blk_put (cs:=#[.slice ad t328.length ae,.slice af t331.length ag,.slice ah t334.length ai,.slice none 0 0,.slice none 0 0,.slice none 0 0]) ?_ 3 _ rfl;exact a0.out) hb);replace HB:=Z_ (lP_ Lb_ hb);(try clear hb);(try clear ho0);obtain ⟨an,ao,eo32⟩:=Kd.R_slice ar.out;subst eo32;obtain ⟨_,_,_,_,_,_,_,_,_,_,_,_⟩:=bc6 a0.out;obtain ⟨_,_,_,_,_,_,_,_,_,_,_,_⟩:=bc6 a3.out) | ((with_reducible refine gate_callee (f:=26) rfl ?_);refine goesA_ (some 26) rfl rfl Tryz.func26 (by kernel_rfl) rfl #[.slice A0_5 l0_5.length c0_5] rfl ?_;(with_reducible refine (laws_toGivenS.calls k _ _ l0_5 t343 _ ?side1 ?side2 A7.out).mono ?_);(case side1 => exact Kd.C_below HR0_5.out Lb_);(case side2 => exact HC0_5.out);rintro e w35 ⟨v344,rfl,ho0,hb⟩;refine ⟨_,rfl,?_⟩;replace a5:=Z_ (Kd.R_below (Kd.R_mono (Kd.R_far (p:=⟨a1,4,none⟩) (Kd.R_types a5.out a0.out (by decide)) (fun _ hk => hk.2) (.slice an t340.length ao)) (fun _ h_ => h_.1)) hb);replace a9:=Z_ (Kd.S_below (by (with_reducible repeat (first | apply Kd.S_alloc | apply Kd.S_drewN | apply Kd.S_drew));exact (Kd.S_mono (Kd.S_far (p:=⟨a1,4,none⟩) (Kd.S_types a9.out a0.out (by decide)) (fun _ hk => hk.2) (.slice an t340.length ao)) (fun _ h_ => h_.1))) hb);replace ab:=Z_ (Kd.R_below (Kd.R_mono (Kd.R_far (p:=⟨a1,4,none⟩) (Kd.R_types ab.out a0.out (by decide)) (fun _ hk => hk.2) (.slice an t340.length ao)) (fun _ h_ => h_.1)) hb);replace aj:=Z_ (Kd.R_below (Kd.R_mono (Kd.R_far (p:=⟨a1,4,none⟩) (Kd.R_types aj.out a0.out (by decide)) (fun _ hk => hk.2) (.slice an t340.length ao)) (fun _ h_ => h_.1)) hb);have ay:=Z_ (Kd.R_lower (Kd.R_new' ho0 (Kd.R_lt (Kd.R_mono (Kd.R_far (p:=⟨a1,4,none⟩) (Kd.R_types ar.out a0.out (by decide)) (fun _ hk => hk.2) (.slice an t340.length ao)) (fun _ h_ => h_.1)))) (below_size Lb_));replace ar:=Z_ (Kd.R_elder' (Kd.R_mono (Kd.R_far (p:=⟨a1,4,none⟩) (Kd.R_types ar.out a0.out (by decide)) (fun _ hk => hk.2) (.slice an t340.length ao)) (fun _ h_ => h_.1)) (Kd.R_base ho0) hb);replace a2:=Z_ (bB_ (g:=a4) (o:=.cells #[.slice none 0 0,.slice none 0 0,.slice none 0 0,.slice none 0 0,.slice none 0 0,.slice none 0 0] 34 (0,0)) (by refine bF_ ?_ aa.out _;exact a2.out) hb);replace a0:=Z_ (bB_ (g:=a1) (o:=.cells #[.slice ad t328.length ae,.slice af t331.length ag,.slice ah t334.length ai,.slice al t337.length am,.slice an t340.length ao,.slice none 0 0] 34 (0,0)) (by refine blk_put (cs:=#[.slice ad t328.length ae,.slice af t331.length ag,.slice ah t334.length ai,.slice al t337.length am,.slice none 0 0,.slice none 0 0]) ?_ 4 _ rfl;exact a0.out) hb);replace HB:=Z_ (lP_ Lb_ hb);(try clear hb);(try clear ho0);obtain ⟨ap,aq,eo36⟩:=Kd.R_slice ay.out;subst eo36;obtain ⟨_,_,_,_,_,_,_,_,_,_,_,_⟩:=bc6 a0.out;obtain ⟨_,_,_,_,_,_,_,_,_,_,_,_⟩:=bc6 a2.out))
 refine bodyPost_ret (results_cell_row rfl _ _ a4 34 #[.slice ad t328.length ae,.slice af t331.length ag,.slice ah t334.length ai,.slice al t337.length am,.slice an t340.length ao,.slice ap t343.length aq] (0,0) _ rfl (by (with_reducible repeat first | apply bN_ | apply bD_ | apply bA_);apply fill6;(with_reducible repeat first | apply bN_ | apply bD_ | apply bA_);refine bF_ ?_ aa.out _;(with_reducible repeat first | apply bN_ | apply bD_ | apply bA_);exact a2.out) Tryz.underlying34 rfl (by kernel_rfl)) rfl ?_
 exact ⟨_,_,_,_,_,_,Er_,by (with_reducible repeat first | apply rA_ | apply rN_ | apply rD_);exact Kd.R_mono (rfar6 (g:=a4) (Kd.R_far (p:=⟨a1,5,none⟩) (Kd.R_types (Kd.R_types a5.out a0.out (by decide)) a2.out (by decide)) (fun _ hk => hk.1.2) (.slice ap t343.length aq)) (fun _ hk => hk.2)) (fun _ hk => trivial),by (with_reducible repeat (first | apply Kd.S_alloc | apply Kd.S_drewN | apply Kd.S_drew));exact Kd.S_mono (Kd.S_far (p:=⟨a4,5,none⟩) (Kd.S_far (p:=⟨a4,4,none⟩) (Kd.S_far (p:=⟨a4,3,none⟩) (Kd.S_far (p:=⟨a4,2,none⟩) (Kd.S_far (p:=⟨a4,1,none⟩) (Kd.S_far (p:=⟨a4,0,none⟩) (Kd.S_far (p:=⟨a1,5,none⟩) (Kd.S_types (Kd.S_types a9.out a0.out (by decide)) a2.out (by decide)) (fun _ hk => hk.1.2) (.slice ap t343.length aq)) (fun _ hk => hk.2) (.slice ad t328.length ae)) (fun _ hk => hk.2) (.slice af t331.length ag)) (fun _ hk => hk.2) (.slice ah t334.length ai)) (fun _ hk => hk.2) (.slice al t337.length am)) (fun _ hk => hk.2) (.slice an t340.length ao)) (fun _ hk => hk.2) (.slice ap t343.length aq)) (fun _ hk => trivial),by (with_reducible repeat first | apply rA_ | apply rN_ | apply rD_);exact Kd.R_mono (rfar6 (g:=a4) (Kd.R_far (p:=⟨a1,5,none⟩) (Kd.R_types (Kd.R_types ab.out a0.out (by decide)) a2.out (by decide)) (fun _ hk => hk.1.2) (.slice ap t343.length aq)) (fun _ hk => hk.2)) (fun _ hk => hk.1.1.2),by (with_reducible repeat first | apply rA_ | apply rN_ | apply rD_);exact Kd.R_mono (rfar6 (g:=a4) (Kd.R_far (p:=⟨a1,5,none⟩) (Kd.R_types (Kd.R_types aj.out a0.out (by decide)) a2.out (by decide)) (fun _ hk => hk.1.2) (.slice ap t343.length aq)) (fun _ hk => hk.2)) (fun _ hk => hk.1.1.2),by (with_reducible repeat first | apply rA_ | apply rN_ | apply rD_);exact Kd.R_mono (rfar6 (g:=a4) (Kd.R_far (p:=⟨a1,5,none⟩) (Kd.R_types (Kd.R_types ar.out a0.out (by decide)) a2.out (by decide)) (fun _ hk => hk.1.2) (.slice ap t343.length aq)) (fun _ hk => hk.2)) (fun _ hk => hk.1.1.2),by (with_reducible repeat first | apply rA_ | apply rN_ | apply rD_);exact Kd.R_mono (rfar6 (g:=a4) (Kd.R_far (p:=⟨a1,5,none⟩) (Kd.R_types (Kd.R_types ay.out a0.out (by decide)) a2.out (by decide)) (fun _ hk => hk.1.2) (.slice ap t343.length aq)) (fun _ hk => hk.2)) (fun _ hk => hk.1.1.2),Lb_⟩
def impl_in.f (a0 a1 a2 : Int) : Option (Bool):=if a0 ≥ a1 then (some (decide (a0 ≤ a2))) else (some false)
set_option maxHeartbeats 8000000 in
set_option maxRecDepth 100000 in
theorem impl_in.calls (a0 a1 a2 : Int) (r : Bool) (w : World) (h : impl_in.f a0 a1 a2 = some r) :
  Calls Tryz.prog 61 #[.int .i64 a0,.int .i64 a1,.int .i64 a2] w fun e w' => e = .returned (.bool r) ∧ Drawn0 w w':=by
 unfold impl_in.f at h
 have H:=h
 clear h
 replace H:=iD_ H
 obtain ⟨c4b0,H⟩ | ⟨c4b0,H⟩:=H
 rotate_left
 focus replace c4b0 : decide (a1 ≤ a0) = false:=c4b0
 rotate_right
 replace c4b0 : decide (a1 ≤ a0) = true:=c4b0
 all_goals
  obtain rfl:=Option.some.inj H
  go_enter Tryz.func61,Tryz.ntmps61
  go_wp2
  go_ret
  exact ⟨by first | rfl | (simp;done) | (simp [*];done),by repeat (first | exact Drawn0.refl _ | apply Drawn0.step)⟩
def impl_isPlace.f (l0 : List (S83)) (a1 : Int) : Option (Bool):=(impl_in.f a1 0 (wrap64 ((l0.length : Int) - 1))).bind fun t394 => (some t394)
set_option maxHeartbeats 8000000 in
set_option maxRecDepth 100000 in
theorem impl_isPlace.calls (A0 : Option Addr) (c0 : Nat) (l0 : List (S83)) (a1 : Int) (r : Bool) (w : World) (hr0 : Kd.C k83 w A0 l0.length l0) (hc0 : l0.length ≤ c0) (h : impl_isPlace.f l0 a1 = some r) :
  Calls Tryz.prog 28 #[.slice A0 l0.length c0,.int .i64 a1] w fun e w' => e = .returned (.bool r) ∧ Drawn0 w w':=by
 have HR0:=Z_ hr0
 have HC0:=Z_ hc0
 clear hr0 hc0
 unfold impl_isPlace.f at h
 have H:=h
 clear h
 replace H:=bS_ H
 obtain ⟨t394,A3,H⟩:=H
 obtain rfl:=Option.some.inj H
 go_enter Tryz.func28,Tryz.ntmps28
 go_wp2_with (first | ((with_reducible refine gate_callee (f:=61) rfl ?_);refine goesA_ (some 9) rfl rfl Tryz.func61 (by kernel_rfl) rfl #[.int .i64 a1,.int .i64 0,.int .i64 (wrap64 ((l0.length : Int) - 1))] rfl ?_;(with_reducible refine (impl_in.calls a1 0 (wrap64 ((l0.length : Int) - 1)) t394 _ A3.out).mono ?_);rintro e w' ⟨rfl,⟨nd,rfl⟩⟩;refine ⟨_,rfl,?_⟩))
 go_ret
 exact ⟨by first | rfl | (simp;done) | (simp [*];done),by repeat (first | exact Drawn0.refl _ | apply Drawn0.step)⟩
def impl_faultOf.l0 : Nat → List Int → Int → Int → Option (Int)
 | 0,_,_,_ => none
 | k + 1,x5,x6,x7 => if x7 < x6 then (if 0 ≤ x7 then (if x7 < (x5.length : Int) then (if (rd x5 x7) = 0 then (impl_faultOf.l0 k x5 x6 (wrap64 (x7 + 1))) else (some (rd x5 x7))) else (none)) else (none)) else (some 0)
def impl_faultOf.f (k : Nat) (l0 : List Int) : Option (Int):=impl_faultOf.l0 k l0 (l0.length : Int) 0
set_option maxHeartbeats 8000000 in
set_option maxRecDepth 100000 in
theorem impl_faultOf.calls (k : Nat) (A0 : Option Addr) (c0 : Nat) (l0 : List Int) (r : Int) (w : World) (hr0 : Kd.C (Kd.int .i64) w A0 l0.length l0) (hc0 : l0.length ≤ c0) (h : impl_faultOf.f k l0 = some r) :
  Calls Tryz.prog 52 #[.slice A0 l0.length c0] w fun e w' => e = .returned (.int .i64 r) ∧ Drawn0 w w':=by
 have HR0:=Z_ hr0
 have HC0:=Z_ hc0
 clear hr0 hc0
 unfold impl_faultOf.f at h
 have H:=h
 clear h
 have H':=Z_ H
 clear H
 go_enter Tryz.func52,Tryz.ntmps52
 go_wp2
 go_loopg [7] k (fun kq v7 w' => ∃ (x7_1 : Int),v7 = .int .i64 x7_1 ∧ Aside0 (impl_faultOf.l0 kq l0 (l0.length : Int) x7_1 = some r) ∧ Aside0 (kq ≤ k) ∧ Drawn0 w w')
 case atStart => exact ⟨(0),Sr_,H',⟨Nat.le_refl _⟩,by repeat (first | exact Drawn0.refl _ | apply Drawn0.step)⟩
 case round =>
  clear H'
  obtain ⟨x7_1,rfl,HA,HK1,⟨m1,rfl⟩⟩:=hrel
  cases gk with
  | zero => exact absurd HA.out (by simp [impl_faultOf.l0])
  | succ k1 =>
   have H:=HA.out
   clear HA
   simp only [impl_faultOf.l0] at H
   replace H:=iD_ H
   obtain ⟨c2b0,H⟩ | ⟨c2b0,H⟩:=H
   rotate_left
   ·obtain rfl:=Option.some.inj H
    go_wp2
    go_ret
    exact ⟨by first | rfl | (simp;done) | (simp [*];done),by repeat (first | exact Drawn0.refl _ | apply Drawn0.step)⟩
   rotate_right
   replace H:=iM_ H
   obtain ⟨c3b0,H⟩:=H
   replace H:=iM_ H
   obtain ⟨c4b0,H⟩:=H
   replace H:=iE_ H
   obtain ⟨c5b0,c5b1,H⟩ | ⟨c5b0,c5b1,H⟩:=H
   rotate_left
   ·obtain rfl:=Option.some.inj H
    have p346 : 0 ≤ (x7_1 : Int):=dA_
    have q346 : x7_1 < (l0.length : Int):=dA_
    obtain ⟨ad346,e346,hx346_0⟩:=Kd.at_int HR0.out x7_1 p346 q346
    cases e346
    replace p346:=eq_true p346
    replace q346:=eq_true q346
    go_wp2
    go_ret
    exact ⟨by first | rfl | (simp;done) | (simp [*];done),by repeat (first | exact Drawn0.refl _ | apply Drawn0.step)⟩
   rotate_right
   have H':=Z_ H
   clear H
   have p346 : 0 ≤ (x7_1 : Int):=dA_
   have q346 : x7_1 < (l0.length : Int):=dA_
   obtain ⟨ad346,e346,hx346_0⟩:=Kd.at_int HR0.out x7_1 p346 q346
   cases e346
   replace p346:=eq_true p346
   replace q346:=eq_true q346
   go_wp2
   go_roundg k1
   case measure => have:=HK1.out;omega
   case rel => exact ⟨(wrap64 (x7_1 + 1)),Sr_,H',⟨by have:=HK1.out;omega⟩,by repeat (first | exact Drawn0.refl _ | apply Drawn0.step)⟩
def impl_namesOf.j0 : Nat → Int → Bool → Option (Bool × Bool × Bool)
 | 0,_,_ => none
 | k + 1,x3,x4 => if x4 = true then (some (false,false,true)) else (if x3 = 6 then (some (true,false,false)) else (some (true,true,false)))
def impl_namesOf.f (k : Nat) (a0 : Int) : Option (Bool × Bool × Bool):=if a0 = 1 then (impl_namesOf.j0 k a0 (a0 == 1)) else (impl_namesOf.j0 k a0 (a0 == 2))
set_option maxHeartbeats 8000000 in
set_option maxRecDepth 100000 in
theorem impl_namesOf.calls (k : Nat) (a0 : Int) (r1 r2 r3 : Bool) (w : World) (h : impl_namesOf.f k a0 = some (r1,r2,r3)) :
  Calls Tryz.prog 97 #[.int .i64 a0] w fun e w' => e = .returned (.agg #[.bool r1,.bool r2,.bool r3]) ∧ Below w.heap.size w w':=by
 have hu144:=Tryz.underlying144
 have HB:=Z_ (Below.refl w.heap.size w)
 unfold impl_namesOf.f at h
 have H:=h
 clear h
 have a4:=Z_ H
 clear H
 go_enter Tryz.func97,Tryz.ntmps97
 go_upto_if 4 with (first | ((with_reducible refine gate_dst (N:=2) rfl ?_);refine box_event ?hg (N:=2) ?hd (cs:=#[.bool false,.bool false,.bool false]) (t:=144) ?hr ?_;(case hd => rfl);(case hg => rfl);(case hr => first | (go_simp;done) | (go_simp;rfl));intro a2 hg w3 hbox hb;have n0_:=Z_ (lP_ Lb_ hb);have n1_:=Z_ hbox;have n2_:=Z_ ((by rw [hg];exact (below_size Lb_) : w.heap.size ≤ a2));have n3_:=Z_ ((by rw [hg];exact (below_size Lb_) : w.heap.size ≤ a2));clear HB;have HB:=n0_;have a1:=n1_;have a5:=n2_;have a3:=n3_;clear n0_ n1_ n2_ n3_ hb hbox hg))
 (try simp only [Act.put,lA_,lZ_,lS_])
 go_cut [4] (fun v4 wc => ∃ (kq : Nat) (x4_1 : Bool),v4 = .bool x4_1 ∧ Aside0 (impl_namesOf.j0 kq a0 x4_1 = some (r1,r2,r3)) ∧ Aside0 (kq ≤ k) ∧ Aside0 (wc.heap[a2]? = some (.cells #[.bool false,.bool false,.bool false] 144 (0,0))) ∧ Aside0 (Below w.heap.size w wc))
 case first =>
  have H:=a4.out
  clear a4
  replace H:=iE_ H
  obtain ⟨c4b0,c4b1,H⟩ | ⟨c4b0,c4b1,H⟩:=H
  all_goals
   (first | rw [c4b0] | (simp only [i64_w,i32_w];rw [c4b0]) | skip)
   have H':=Z_ H
   clear H
   go_wp2
   go_meet
   case rel => exact ⟨_,_,Sr_,H',Ol_,⟨Bk_ a1⟩,⟨Lb_⟩⟩
 case rest =>
  clear a4
  try clear p2
  try clear c4
  try clear c4b0
  try clear c4b1
  obtain ⟨kq,x4_1,rfl,HA,HJ1,a1,HB⟩:=hcut
  cases kq with
  | zero => exact absurd HA.out (by simp [impl_namesOf.j0])
  | succ kj1 =>
   have H:=HA.out
   clear HA
   simp only [impl_namesOf.j0] at H
   replace H:=iB_ H
   obtain ⟨rfl,H⟩ | ⟨rfl,H⟩:=H
   ·simp only [Option.some.injEq,Prod.mk.injEq] at H
    obtain ⟨rfl,rfl,rfl⟩:=H
    obtain ⟨_,_,_,_,_,_⟩:=bc3 a1.out
    go_wp2
    refine bodyPost_ret (results_cell_row rfl _ _ a2 144 #[.bool false,.bool false,.bool true] (0,0) _ rfl (by (with_reducible repeat first | apply bN_ | apply bD_ | apply bA_);apply fill3;(with_reducible repeat first | apply bN_ | apply bD_ | apply bA_);exact a1.out) Tryz.underlying144 rfl (by kernel_rfl)) rfl ?_
    exact ⟨Er_,Lb_⟩
   replace H:=iE_ H
   obtain ⟨c7b0,c7b1,H⟩ | ⟨c7b0,c7b1,H⟩:=H
   rotate_left
   ·simp only [Option.some.injEq,Prod.mk.injEq] at H
    obtain ⟨rfl,rfl,rfl⟩:=H
    obtain ⟨_,_,_,_,_,_⟩:=bc3 a1.out
    go_wp2
    refine bodyPost_ret (results_cell_row rfl _ _ a2 144 #[.bool true,.bool true,.bool false] (0,0) _ rfl (by (with_reducible repeat first | apply bN_ | apply bD_ | apply bA_);apply fill3;(with_reducible repeat first | apply bN_ | apply bD_ | apply bA_);exact a1.out) Tryz.underlying144 rfl (by kernel_rfl)) rfl ?_
    exact ⟨Er_,Lb_⟩
   rotate_right
   simp only [Option.some.injEq,Prod.mk.injEq] at H
   obtain ⟨rfl,rfl,rfl⟩:=H
   obtain ⟨_,_,_,_,_,_⟩:=bc3 a1.out
   go_wp2
   refine bodyPost_ret (results_cell_row rfl _ _ a2 144 #[.bool true,.bool false,.bool false] (0,0) _ rfl (by (with_reducible repeat first | apply bN_ | apply bD_ | apply bA_);apply fill3;(with_reducible repeat first | apply bN_ | apply bD_ | apply bA_);exact a1.out) Tryz.underlying144 rfl (by kernel_rfl)) rfl ?_
   exact ⟨Er_,Lb_⟩
set_option maxHeartbeats 4000000 in
set_option maxRecDepth 100000 in
theorem slices_IndexFunc_int64_int64.calls (g : Nat) (lb : Array Value) (p : Int → Bool) (A0 : Option Addr) (c0 : Nat) (l0 : List Int) (w : World) (eg : ∀ args w,(callFunc g args).run Tryz.prog w = .ok (.enter g args) w)
    (hp : ∀ (W : World) (x : Int),x ∈ l0 → Below w.heap.size w W → Calls Tryz.prog g (#[.int .i64 x] ++ lb) W fun e w' => e = .returned (.bool (p x)) ∧ Below w.heap.size w w')
    (hr0 : Kd.C (Kd.int .i64) w A0 l0.length l0) (hl : l0.length ≤ 9223372036854775807) :
    Calls Tryz.prog 108 #[.slice A0 l0.length c0,.func (.func g) #[] lb] w fun e w' => ∃ v : Int,e = .returned (.int .i64 v) ∧ Aside0 (decide (0 ≤ v) = l0.any p) ∧ Below w.heap.size w w':=by
 have HR:=Z_ hr0
 clear hr0
 go_enter Tryz.func108,Tryz.ntmps108
 go_wp2
 go_loopg [5,8] l0.length (fun gg _ s8 wr => ∃ kk : Nat,kk ≤ l0.length ∧ l0.length - kk ≤ gg ∧ s8 = .int .i64 kk ∧ Aside0 (Below w.heap.size w wr) ∧ Aside0 (∀ j : Nat,j < kk → p (rd l0 j) = false))
 case atStart => exact ⟨0,Nat.zero_le _,by omega,rfl,Z_ (Below.refl _ w),Z_ (fun j hj => absurd hj (Nat.not_lt_zero _))⟩
 case round =>
  obtain ⟨kk,hkk,hg,rfl,BW,HA⟩:=hrel
  by_cases hlt : kk < l0.length
  ·have hltz : (kk : Int) < (l0.length : Int):=by omega
   obtain ⟨ad,e,hx⟩:=Kd.at_int (Kd.C_below HR.out BW.out) (kk : Int) (by omega) (by omega)
   rw [Int.toNat_natCast] at hx
   subst e
   have hm : rd l0 (kk : Int) ∈ l0:=by
     have : rd l0 (kk : Int) = l0[kk]:=by simp [rd,List.getD,List.getElem?_eq_getElem hlt]
     rw [this];exact List.getElem_mem hlt
   have HM:=Z_ hm
   have hcall:=hp wr (rd l0 (kk : Int)) hm BW.out
   clear hp hm
   generalize hy : rd l0 (kk : Int) = y at hx hcall
   have HY:=Z_ hy
   clear hy
   cases hq : p y with
   | true =>
    rw [hq] at hcall
    go_wp2_with (go_at_fn g;refine hcall.mono ?_;rintro e w' ⟨rfl,hb'⟩)
    go_ret
    refine ⟨_,rfl,Z_ ?_,hb'⟩
    rw [decide_eq_true (show (0 : Int) ≤ (kk : Int) by omega)]
    symm
    exact List.any_eq_true.2 ⟨_,HM.out,by rw [HY.out];exact hq⟩
   | false =>
    rw [hq] at hcall
    go_wp2_with (go_at_fn g;refine hcall.mono ?_;rintro e w' ⟨rfl,hb'⟩)
    go_roundg (l0.length - (kk + 1))
    case measure => omega
    case rel =>
     refine ⟨kk + 1,by omega,by omega,by go_num,Z_ hb',Z_ (fun j hj => ?_)⟩
     by_cases e : j = kk
     ·subst e
      rw [HY.out];exact hq
     ·exact HA.out j (by omega)
  ·have hltz : ¬ (kk : Int) < (l0.length : Int):=by omega
   obtain rfl : kk = l0.length:=by omega
   go_wp2
   go_ret
   refine ⟨_,rfl,Z_ ?_,BW.out⟩
   rw [decide_eq_false (show ¬ (0 : Int) ≤ -1 by omega)]
   symm
   rw [List.any_eq_false]
   intro x hx
   obtain ⟨j,hj,rfl⟩:=List.getElem_of_mem hx
   have:=HA.out j hj
   have e : rd l0 (j : Int) = l0[j]:=by simp [rd,List.getD,List.getElem?_eq_getElem hj]
   rw [e] at this
   simp [this]
set_option maxHeartbeats 4000000 in
set_option maxRecDepth 100000 in
theorem slices_ContainsFunc_int64_int64.calls (g : Nat) (lb : Array Value) (p : Int → Bool) (A0 : Option Addr) (c0 : Nat) (l0 : List Int) (w : World) (eg : ∀ args w,(callFunc g args).run Tryz.prog w = .ok (.enter g args) w)
    (hp : ∀ (W : World) (x : Int),x ∈ l0 → Below w.heap.size w W → Calls Tryz.prog g (#[.int .i64 x] ++ lb) W fun e w' => e = .returned (.bool (p x)) ∧ Below w.heap.size w w')
    (hr0 : Kd.C (Kd.int .i64) w A0 l0.length l0) (hl : l0.length ≤ 9223372036854775807) :
    Calls Tryz.prog 98 #[.slice A0 l0.length c0,.func (.func g) #[] lb] w fun e w' => e = .returned (.bool (l0.any p)) ∧ Below w.heap.size w w':=by
 have hC:=slices_IndexFunc_int64_int64.calls g lb p A0 c0 l0 w eg hp hr0 hl
 clear hp hr0
 go_enter Tryz.func98,Tryz.ntmps98
 go_wp2_with (go_at_call 108;refine hC.mono ?_;rintro e w' ⟨v,rfl,hv,hb⟩)
 go_ret
 exact ⟨congrArg (fun b => Ending.returned (Value.bool b)) hv.out,hb⟩
end Go.Proofs.YtcafikgabidphaaGreat.G
