/- Part 3 of the proof of FnExactDoneTalks: what the functions on its road do, and the plain laws. -/
import Derived.Test.YtaniedjfkiklmaaCFnExactDoneTalks2
namespace Go.Proofs.Ytaniedjfkiklmaa.G
open Go.RowKit Go.Proofs.YtaniedjfkiklmaaW.PrintWords Go.Proofs.YtaniedjfkiklmaaW.PrintLast Go.Proofs.YtaniedjfkiklmaaW.PrintMore
attribute [local go_sem] max2_int min2_int max_two min_two max_three min_three max_four min_four   -- for this text's walks alone
set_option linter.unusedVariables false
set_option linter.unusedSimpArgs false
def laws_markTalkS.l0 : Nat → List (S58) → Int → Int → Option (Int × (List (S58)))
 | 0, _, _, _ => none
 | k + 1, x0, x1, x5 => if x5 < (x0.length : Int) then (if 0 ≤ x5 then ((some (x0.set (x5 : Int).toNat (⟨x1, (rd_T58 x0 x5).f1, (rd_T58 x0 x5).f2, (rd_T58 x0 x5).f3, (rd_T58 x0 x5).f4, (rd_T58 x0 x5).f5, (rd_T58 x0 x5).f6, (rd_T58 x0 x5).f7, (rd_T58 x0 x5).f8, (rd_T58 x0 x5).f9, (rd_T58 x0 x5).f10, (⟨(rd_T58 x0 x5).f11.f0, (rd_T58 x0 x5).f11.f1, (rd_T58 x0 x5).f11.f2, (rd_T58 x0 x5).f11.f3⟩ : S54), (rd_T58 x0 x5).f12, (rd_T58 x0 x5).f13, (rd_T58 x0 x5).f14, (⟨(rd_T58 x0 x5).f15.f0, (rd_T58 x0 x5).f15.f1⟩ : S56)⟩ : S58) : List (S58))).bind fun y185 => ((some (y185.set (x5 : Int).toNat (⟨(rd_T58 y185 x5).f0, wrap64 (x1 + 1), (rd_T58 y185 x5).f2, (rd_T58 y185 x5).f3, (rd_T58 y185 x5).f4, (rd_T58 y185 x5).f5, (rd_T58 y185 x5).f6, (rd_T58 y185 x5).f7, (rd_T58 y185 x5).f8, (rd_T58 y185 x5).f9, (rd_T58 y185 x5).f10, (⟨(rd_T58 y185 x5).f11.f0, (rd_T58 y185 x5).f11.f1, (rd_T58 y185 x5).f11.f2, (rd_T58 y185 x5).f11.f3⟩ : S54), (rd_T58 y185 x5).f12, (rd_T58 y185 x5).f13, (rd_T58 y185 x5).f14, (⟨(rd_T58 y185 x5).f15.f0, (rd_T58 y185 x5).f15.f1⟩ : S56)⟩ : S58) : List (S58))).bind fun y186 => ((some (y186.set (x5 : Int).toNat (⟨(rd_T58 y186 x5).f0, (rd_T58 y186 x5).f1, wrap64 ((wrap64 (x1 + 1)) + 1), (rd_T58 y186 x5).f3, (rd_T58 y186 x5).f4, (rd_T58 y186 x5).f5, (rd_T58 y186 x5).f6, (rd_T58 y186 x5).f7, (rd_T58 y186 x5).f8, (rd_T58 y186 x5).f9, (rd_T58 y186 x5).f10, (⟨(rd_T58 y186 x5).f11.f0, (rd_T58 y186 x5).f11.f1, (rd_T58 y186 x5).f11.f2, (rd_T58 y186 x5).f11.f3⟩ : S54), (rd_T58 y186 x5).f12, (rd_T58 y186 x5).f13, (rd_T58 y186 x5).f14, (⟨(rd_T58 y186 x5).f15.f0, (rd_T58 y186 x5).f15.f1⟩ : S56)⟩ : S58) : List (S58))).bind fun y187 => ((some (y187.set (x5 : Int).toNat (⟨(rd_T58 y187 x5).f0, (rd_T58 y187 x5).f1, (rd_T58 y187 x5).f2, wrap64 ((wrap64 ((wrap64 (x1 + 1)) + 1)) + 1), (rd_T58 y187 x5).f4, (rd_T58 y187 x5).f5, (rd_T58 y187 x5).f6, (rd_T58 y187 x5).f7, (rd_T58 y187 x5).f8, (rd_T58 y187 x5).f9, (rd_T58 y187 x5).f10, (⟨(rd_T58 y187 x5).f11.f0, (rd_T58 y187 x5).f11.f1, (rd_T58 y187 x5).f11.f2, (rd_T58 y187 x5).f11.f3⟩ : S54), (rd_T58 y187 x5).f12, (rd_T58 y187 x5).f13, (rd_T58 y187 x5).f14, (⟨(rd_T58 y187 x5).f15.f0, (rd_T58 y187 x5).f15.f1⟩ : S56)⟩ : S58) : List (S58))).bind fun y188 => ((some (y188.set (x5 : Int).toNat (⟨(rd_T58 y188 x5).f0, (rd_T58 y188 x5).f1, (rd_T58 y188 x5).f2, (rd_T58 y188 x5).f3, wrap64 ((wrap64 ((wrap64 ((wrap64 (x1 + 1)) + 1)) + 1)) + 1), (rd_T58 y188 x5).f5, (rd_T58 y188 x5).f6, (rd_T58 y188 x5).f7, (rd_T58 y188 x5).f8, (rd_T58 y188 x5).f9, (rd_T58 y188 x5).f10, (⟨(rd_T58 y188 x5).f11.f0, (rd_T58 y188 x5).f11.f1, (rd_T58 y188 x5).f11.f2, (rd_T58 y188 x5).f11.f3⟩ : S54), (rd_T58 y188 x5).f12, (rd_T58 y188 x5).f13, (rd_T58 y188 x5).f14, (⟨(rd_T58 y188 x5).f15.f0, (rd_T58 y188 x5).f15.f1⟩ : S56)⟩ : S58) : List (S58))).bind fun y189 => ((some (y189.set (x5 : Int).toNat (⟨(rd_T58 y189 x5).f0, (rd_T58 y189 x5).f1, (rd_T58 y189 x5).f2, (rd_T58 y189 x5).f3, (rd_T58 y189 x5).f4, wrap64 ((wrap64 ((wrap64 ((wrap64 ((wrap64 (x1 + 1)) + 1)) + 1)) + 1)) + 1), (rd_T58 y189 x5).f6, (rd_T58 y189 x5).f7, (rd_T58 y189 x5).f8, (rd_T58 y189 x5).f9, (rd_T58 y189 x5).f10, (⟨(rd_T58 y189 x5).f11.f0, (rd_T58 y189 x5).f11.f1, (rd_T58 y189 x5).f11.f2, (rd_T58 y189 x5).f11.f3⟩ : S54), (rd_T58 y189 x5).f12, (rd_T58 y189 x5).f13, (rd_T58 y189 x5).f14, (⟨(rd_T58 y189 x5).f15.f0, (rd_T58 y189 x5).f15.f1⟩ : S56)⟩ : S58) : List (S58))).bind fun y190 => ((some (y190.set (x5 : Int).toNat (⟨(rd_T58 y190 x5).f0, (rd_T58 y190 x5).f1, (rd_T58 y190 x5).f2, (rd_T58 y190 x5).f3, (rd_T58 y190 x5).f4, (rd_T58 y190 x5).f5, wrap64 ((wrap64 ((wrap64 ((wrap64 ((wrap64 ((wrap64 (x1 + 1)) + 1)) + 1)) + 1)) + 1)) + 1), (rd_T58 y190 x5).f7, (rd_T58 y190 x5).f8, (rd_T58 y190 x5).f9, (rd_T58 y190 x5).f10, (⟨(rd_T58 y190 x5).f11.f0, (rd_T58 y190 x5).f11.f1, (rd_T58 y190 x5).f11.f2, (rd_T58 y190 x5).f11.f3⟩ : S54), (rd_T58 y190 x5).f12, (rd_T58 y190 x5).f13, (rd_T58 y190 x5).f14, (⟨(rd_T58 y190 x5).f15.f0, (rd_T58 y190 x5).f15.f1⟩ : S56)⟩ : S58) : List (S58))).bind fun y191 => ((some (y191.set (x5 : Int).toNat (⟨(rd_T58 y191 x5).f0, (rd_T58 y191 x5).f1, (rd_T58 y191 x5).f2, (rd_T58 y191 x5).f3, (rd_T58 y191 x5).f4, (rd_T58 y191 x5).f5, (rd_T58 y191 x5).f6, wrap64 ((wrap64 ((wrap64 ((wrap64 ((wrap64 ((wrap64 ((wrap64 (x1 + 1)) + 1)) + 1)) + 1)) + 1)) + 1)) + 1), (rd_T58 y191 x5).f8, (rd_T58 y191 x5).f9, (rd_T58 y191 x5).f10, (⟨(rd_T58 y191 x5).f11.f0, (rd_T58 y191 x5).f11.f1, (rd_T58 y191 x5).f11.f2, (rd_T58 y191 x5).f11.f3⟩ : S54), (rd_T58 y191 x5).f12, (rd_T58 y191 x5).f13, (rd_T58 y191 x5).f14, (⟨(rd_T58 y191 x5).f15.f0, (rd_T58 y191 x5).f15.f1⟩ : S56)⟩ : S58) : List (S58))).bind fun y192 => ((some (y192.set (x5 : Int).toNat (⟨(rd_T58 y192 x5).f0, (rd_T58 y192 x5).f1, (rd_T58 y192 x5).f2, (rd_T58 y192 x5).f3, (rd_T58 y192 x5).f4, (rd_T58 y192 x5).f5, (rd_T58 y192 x5).f6, (rd_T58 y192 x5).f7, wrap64 ((wrap64 ((wrap64 ((wrap64 ((wrap64 ((wrap64 ((wrap64 ((wrap64 (x1 + 1)) + 1)) + 1)) + 1)) + 1)) + 1)) + 1)) + 1), (rd_T58 y192 x5).f9, (rd_T58 y192 x5).f10, (⟨(rd_T58 y192 x5).f11.f0, (rd_T58 y192 x5).f11.f1, (rd_T58 y192 x5).f11.f2, (rd_T58 y192 x5).f11.f3⟩ : S54), (rd_T58 y192 x5).f12, (rd_T58 y192 x5).f13, (rd_T58 y192 x5).f14, (⟨(rd_T58 y192 x5).f15.f0, (rd_T58 y192 x5).f15.f1⟩ : S56)⟩ : S58) : List (S58))).bind fun y193 => ((some (y193.set (x5 : Int).toNat (⟨(rd_T58 y193 x5).f0, (rd_T58 y193 x5).f1, (rd_T58 y193 x5).f2, (rd_T58 y193 x5).f3, (rd_T58 y193 x5).f4, (rd_T58 y193 x5).f5, (rd_T58 y193 x5).f6, (rd_T58 y193 x5).f7, (rd_T58 y193 x5).f8, wrap64 ((wrap64 ((wrap64 ((wrap64 ((wrap64 ((wrap64 ((wrap64 ((wrap64 ((wrap64 (x1 + 1)) + 1)) + 1)) + 1)) + 1)) + 1)) + 1)) + 1)) + 1), (rd_T58 y193 x5).f10, (⟨(rd_T58 y193 x5).f11.f0, (rd_T58 y193 x5).f11.f1, (rd_T58 y193 x5).f11.f2, (rd_T58 y193 x5).f11.f3⟩ : S54), (rd_T58 y193 x5).f12, (rd_T58 y193 x5).f13, (rd_T58 y193 x5).f14, (⟨(rd_T58 y193 x5).f15.f0, (rd_T58 y193 x5).f15.f1⟩ : S56)⟩ : S58) : List (S58))).bind fun y194 => ((some (y194.set (x5 : Int).toNat (⟨(rd_T58 y194 x5).f0, (rd_T58 y194 x5).f1, (rd_T58 y194 x5).f2, (rd_T58 y194 x5).f3, (rd_T58 y194 x5).f4, (rd_T58 y194 x5).f5, (rd_T58 y194 x5).f6, (rd_T58 y194 x5).f7, (rd_T58 y194 x5).f8, (rd_T58 y194 x5).f9, wrap64 ((wrap64 ((wrap64 ((wrap64 ((wrap64 ((wrap64 ((wrap64 ((wrap64 ((wrap64 ((wrap64 (x1 + 1)) + 1)) + 1)) + 1)) + 1)) + 1)) + 1)) + 1)) + 1)) + 1), (⟨(rd_T58 y194 x5).f11.f0, (rd_T58 y194 x5).f11.f1, (rd_T58 y194 x5).f11.f2, (rd_T58 y194 x5).f11.f3⟩ : S54), (rd_T58 y194 x5).f12, (rd_T58 y194 x5).f13, (rd_T58 y194 x5).f14, (⟨(rd_T58 y194 x5).f15.f0, (rd_T58 y194 x5).f15.f1⟩ : S56)⟩ : S58) : List (S58))).bind fun y195 => ((some (y195.set (x5 : Int).toNat (⟨(rd_T58 y195 x5).f0, (rd_T58 y195 x5).f1, (rd_T58 y195 x5).f2, (rd_T58 y195 x5).f3, (rd_T58 y195 x5).f4, (rd_T58 y195 x5).f5, (rd_T58 y195 x5).f6, (rd_T58 y195 x5).f7, (rd_T58 y195 x5).f8, (rd_T58 y195 x5).f9, (rd_T58 y195 x5).f10, (⟨wrap64 ((wrap64 ((wrap64 ((wrap64 ((wrap64 ((wrap64 ((wrap64 ((wrap64 ((wrap64 ((wrap64 ((wrap64 (x1 + 1)) + 1)) + 1)) + 1)) + 1)) + 1)) + 1)) + 1)) + 1)) + 1)) + 1), (rd_T58 y195 x5).f11.f1, (rd_T58 y195 x5).f11.f2, (rd_T58 y195 x5).f11.f3⟩ : S54), (rd_T58 y195 x5).f12, (rd_T58 y195 x5).f13, (rd_T58 y195 x5).f14, (⟨(rd_T58 y195 x5).f15.f0, (rd_T58 y195 x5).f15.f1⟩ : S56)⟩ : S58) : List (S58))).bind fun y196 => ((some (y196.set (x5 : Int).toNat (⟨(rd_T58 y196 x5).f0, (rd_T58 y196 x5).f1, (rd_T58 y196 x5).f2, (rd_T58 y196 x5).f3, (rd_T58 y196 x5).f4, (rd_T58 y196 x5).f5, (rd_T58 y196 x5).f6, (rd_T58 y196 x5).f7, (rd_T58 y196 x5).f8, (rd_T58 y196 x5).f9, (rd_T58 y196 x5).f10, (⟨(rd_T58 y196 x5).f11.f0, wrap64 ((wrap64 ((wrap64 ((wrap64 ((wrap64 ((wrap64 ((wrap64 ((wrap64 ((wrap64 ((wrap64 ((wrap64 ((wrap64 (x1 + 1)) + 1)) + 1)) + 1)) + 1)) + 1)) + 1)) + 1)) + 1)) + 1)) + 1)) + 1), (rd_T58 y196 x5).f11.f2, (rd_T58 y196 x5).f11.f3⟩ : S54), (rd_T58 y196 x5).f12, (rd_T58 y196 x5).f13, (rd_T58 y196 x5).f14, (⟨(rd_T58 y196 x5).f15.f0, (rd_T58 y196 x5).f15.f1⟩ : S56)⟩ : S58) : List (S58))).bind fun y197 => ((some (y197.set (x5 : Int).toNat (⟨(rd_T58 y197 x5).f0, (rd_T58 y197 x5).f1, (rd_T58 y197 x5).f2, (rd_T58 y197 x5).f3, (rd_T58 y197 x5).f4, (rd_T58 y197 x5).f5, (rd_T58 y197 x5).f6, (rd_T58 y197 x5).f7, (rd_T58 y197 x5).f8, (rd_T58 y197 x5).f9, (rd_T58 y197 x5).f10, (⟨(rd_T58 y197 x5).f11.f0, (rd_T58 y197 x5).f11.f1, wrap64 ((wrap64 ((wrap64 ((wrap64 ((wrap64 ((wrap64 ((wrap64 ((wrap64 ((wrap64 ((wrap64 ((wrap64 ((wrap64 ((wrap64 (x1 + 1)) + 1)) + 1)) + 1)) + 1)) + 1)) + 1)) + 1)) + 1)) + 1)) + 1)) + 1)) + 1), (rd_T58 y197 x5).f11.f3⟩ : S54), (rd_T58 y197 x5).f12, (rd_T58 y197 x5).f13, (rd_T58 y197 x5).f14, (⟨(rd_T58 y197 x5).f15.f0, (rd_T58 y197 x5).f15.f1⟩ : S56)⟩ : S58) : List (S58))).bind fun y198 => ((some (y198.set (x5 : Int).toNat (⟨(rd_T58 y198 x5).f0, (rd_T58 y198 x5).f1, (rd_T58 y198 x5).f2, (rd_T58 y198 x5).f3, (rd_T58 y198 x5).f4, (rd_T58 y198 x5).f5, (rd_T58 y198 x5).f6, (rd_T58 y198 x5).f7, (rd_T58 y198 x5).f8, (rd_T58 y198 x5).f9, (rd_T58 y198 x5).f10, (⟨(rd_T58 y198 x5).f11.f0, (rd_T58 y198 x5).f11.f1, (rd_T58 y198 x5).f11.f2, wrap64 ((wrap64 ((wrap64 ((wrap64 ((wrap64 ((wrap64 ((wrap64 ((wrap64 ((wrap64 ((wrap64 ((wrap64 ((wrap64 ((wrap64 ((wrap64 (x1 + 1)) + 1)) + 1)) + 1)) + 1)) + 1)) + 1)) + 1)) + 1)) + 1)) + 1)) + 1)) + 1)) + 1)⟩ : S54), (rd_T58 y198 x5).f12, (rd_T58 y198 x5).f13, (rd_T58 y198 x5).f14, (⟨(rd_T58 y198 x5).f15.f0, (rd_T58 y198 x5).f15.f1⟩ : S56)⟩ : S58) : List (S58))).bind fun y199 => ((some (y199.set (x5 : Int).toNat (⟨(rd_T58 y199 x5).f0, (rd_T58 y199 x5).f1, (rd_T58 y199 x5).f2, (rd_T58 y199 x5).f3, (rd_T58 y199 x5).f4, (rd_T58 y199 x5).f5, (rd_T58 y199 x5).f6, (rd_T58 y199 x5).f7, (rd_T58 y199 x5).f8, (rd_T58 y199 x5).f9, (rd_T58 y199 x5).f10, (⟨(rd_T58 y199 x5).f11.f0, (rd_T58 y199 x5).f11.f1, (rd_T58 y199 x5).f11.f2, (rd_T58 y199 x5).f11.f3⟩ : S54), wrap64 ((wrap64 ((wrap64 ((wrap64 ((wrap64 ((wrap64 ((wrap64 ((wrap64 ((wrap64 ((wrap64 ((wrap64 ((wrap64 ((wrap64 ((wrap64 ((wrap64 (x1 + 1)) + 1)) + 1)) + 1)) + 1)) + 1)) + 1)) + 1)) + 1)) + 1)) + 1)) + 1)) + 1)) + 1)) + 1), (rd_T58 y199 x5).f13, (rd_T58 y199 x5).f14, (⟨(rd_T58 y199 x5).f15.f0, (rd_T58 y199 x5).f15.f1⟩ : S56)⟩ : S58) : List (S58))).bind fun y200 => ((some (y200.set (x5 : Int).toNat (⟨(rd_T58 y200 x5).f0, (rd_T58 y200 x5).f1, (rd_T58 y200 x5).f2, (rd_T58 y200 x5).f3, (rd_T58 y200 x5).f4, (rd_T58 y200 x5).f5, (rd_T58 y200 x5).f6, (rd_T58 y200 x5).f7, (rd_T58 y200 x5).f8, (rd_T58 y200 x5).f9, (rd_T58 y200 x5).f10, (⟨(rd_T58 y200 x5).f11.f0, (rd_T58 y200 x5).f11.f1, (rd_T58 y200 x5).f11.f2, (rd_T58 y200 x5).f11.f3⟩ : S54), (rd_T58 y200 x5).f12, wrap64 ((wrap64 ((wrap64 ((wrap64 ((wrap64 ((wrap64 ((wrap64 ((wrap64 ((wrap64 ((wrap64 ((wrap64 ((wrap64 ((wrap64 ((wrap64 ((wrap64 ((wrap64 (x1 + 1)) + 1)) + 1)) + 1)) + 1)) + 1)) + 1)) + 1)) + 1)) + 1)) + 1)) + 1)) + 1)) + 1)) + 1)) + 1), (rd_T58 y200 x5).f14, (⟨(rd_T58 y200 x5).f15.f0, (rd_T58 y200 x5).f15.f1⟩ : S56)⟩ : S58) : List (S58))).bind fun y201 => ((some (y201.set (x5 : Int).toNat (⟨(rd_T58 y201 x5).f0, (rd_T58 y201 x5).f1, (rd_T58 y201 x5).f2, (rd_T58 y201 x5).f3, (rd_T58 y201 x5).f4, (rd_T58 y201 x5).f5, (rd_T58 y201 x5).f6, (rd_T58 y201 x5).f7, (rd_T58 y201 x5).f8, (rd_T58 y201 x5).f9, (rd_T58 y201 x5).f10, (⟨(rd_T58 y201 x5).f11.f0, (rd_T58 y201 x5).f11.f1, (rd_T58 y201 x5).f11.f2, (rd_T58 y201 x5).f11.f3⟩ : S54), (rd_T58 y201 x5).f12, (rd_T58 y201 x5).f13, wrap64 ((wrap64 ((wrap64 ((wrap64 ((wrap64 ((wrap64 ((wrap64 ((wrap64 ((wrap64 ((wrap64 ((wrap64 ((wrap64 ((wrap64 ((wrap64 ((wrap64 ((wrap64 ((wrap64 (x1 + 1)) + 1)) + 1)) + 1)) + 1)) + 1)) + 1)) + 1)) + 1)) + 1)) + 1)) + 1)) + 1)) + 1)) + 1)) + 1)) + 1), (⟨(rd_T58 y201 x5).f15.f0, (rd_T58 y201 x5).f15.f1⟩ : S56)⟩ : S58) : List (S58))).bind fun y202 => ((some (y202.set (x5 : Int).toNat (⟨(rd_T58 y202 x5).f0, (rd_T58 y202 x5).f1, (rd_T58 y202 x5).f2, (rd_T58 y202 x5).f3, (rd_T58 y202 x5).f4, (rd_T58 y202 x5).f5, (rd_T58 y202 x5).f6, (rd_T58 y202 x5).f7, (rd_T58 y202 x5).f8, (rd_T58 y202 x5).f9, (rd_T58 y202 x5).f10, (⟨(rd_T58 y202 x5).f11.f0, (rd_T58 y202 x5).f11.f1, (rd_T58 y202 x5).f11.f2, (rd_T58 y202 x5).f11.f3⟩ : S54), (rd_T58 y202 x5).f12, (rd_T58 y202 x5).f13, (rd_T58 y202 x5).f14, (⟨wrap64 ((wrap64 ((wrap64 ((wrap64 ((wrap64 ((wrap64 ((wrap64 ((wrap64 ((wrap64 ((wrap64 ((wrap64 ((wrap64 ((wrap64 ((wrap64 ((wrap64 ((wrap64 ((wrap64 ((wrap64 (x1 + 1)) + 1)) + 1)) + 1)) + 1)) + 1)) + 1)) + 1)) + 1)) + 1)) + 1)) + 1)) + 1)) + 1)) + 1)) + 1)) + 1)) + 1), (rd_T58 y202 x5).f15.f1⟩ : S56)⟩ : S58) : List (S58))).bind fun y203 => (laws_markTalkS.l0 k (y203.set (x5 : Int).toNat (⟨(rd_T58 y203 x5).f0, (rd_T58 y203 x5).f1, (rd_T58 y203 x5).f2, (rd_T58 y203 x5).f3, (rd_T58 y203 x5).f4, (rd_T58 y203 x5).f5, (rd_T58 y203 x5).f6, (rd_T58 y203 x5).f7, (rd_T58 y203 x5).f8, (rd_T58 y203 x5).f9, (rd_T58 y203 x5).f10, (⟨(rd_T58 y203 x5).f11.f0, (rd_T58 y203 x5).f11.f1, (rd_T58 y203 x5).f11.f2, (rd_T58 y203 x5).f11.f3⟩ : S54), (rd_T58 y203 x5).f12, (rd_T58 y203 x5).f13, (rd_T58 y203 x5).f14, (⟨(rd_T58 y203 x5).f15.f0, wrap64 ((wrap64 ((wrap64 ((wrap64 ((wrap64 ((wrap64 ((wrap64 ((wrap64 ((wrap64 ((wrap64 ((wrap64 ((wrap64 ((wrap64 ((wrap64 ((wrap64 ((wrap64 ((wrap64 ((wrap64 ((wrap64 (x1 + 1)) + 1)) + 1)) + 1)) + 1)) + 1)) + 1)) + 1)) + 1)) + 1)) + 1)) + 1)) + 1)) + 1)) + 1)) + 1)) + 1)) + 1)) + 1)⟩ : S56)⟩ : S58)) (wrap64 ((wrap64 ((wrap64 ((wrap64 ((wrap64 ((wrap64 ((wrap64 ((wrap64 ((wrap64 ((wrap64 ((wrap64 ((wrap64 ((wrap64 ((wrap64 ((wrap64 ((wrap64 ((wrap64 ((wrap64 ((wrap64 ((wrap64 (x1 + 1)) + 1)) + 1)) + 1)) + 1)) + 1)) + 1)) + 1)) + 1)) + 1)) + 1)) + 1)) + 1)) + 1)) + 1)) + 1)) + 1)) + 1)) + 1)) + 1)) (wrap64 (x5 + 1)))))))))))))))))))))) else (none)) else (some (x1, x0))
def laws_markTalkS.f (k : Nat) (l0 : List (S58)) (a1 : Int) : Option (Int × (List (S58))) := laws_markTalkS.l0 k l0 a1 0
theorem laws_markTalkS.mono_l : ∀ k, (∀ y0 y1 y2, LeO (laws_markTalkS.l0 k y0 y1 y2) (laws_markTalkS.l0 (k + 1) y0 y1 y2))
 | 0 => fun _ _ _ r h => by simp [laws_markTalkS.l0] at h
 | k + 1 => by
  have ih0 := laws_markTalkS.mono_l k
  ·intro y0 y1 y2
   unfold laws_markTalkS.l0
   repeat' first
   | (with_reducible exact ih0 _ _ _)
   | (with_reducible exact LeO.refl _)
   | (with_reducible exact LeO.none _)
   | (with_reducible refine LeO.ite ?_ ?_)
   | (with_reducible refine LeO.bind ?_ (fun _ => ?_))
   | exact ih0 _ _ _
   | exact LeO.none _
   | refine LeO.ite ?_ ?_
   | refine LeO.bind ?_ (fun _ => ?_)
set_option maxHeartbeats 8000000 in
set_option maxRecDepth 100000 in
theorem laws_markTalkS.calls (k : Nat) (P0_ : Nat → Prop) (u9000_ : Value) (l0 : List (S58)) (a1 : Int) (r1 : Int) (r2 : List (S58)) (w0 w : World) (hB : Below w0.heap.size w0 w) (ho0 : Kd.R k58 58 w w0.heap.size P0_ u9000_ l0) (h : laws_markTalkS.f k l0 a1 = some (r1, r2)) :
  Calls Try.prog 29 #[u9000_, .int .i64 a1] w fun e w' => e = .returned (.int .i64 r1) ∧ Kd.R k58 58 w' w0.heap.size (fun k_ => (P0_ k_ ∨ w.heap.size ≤ k_)) u9000_ r2 ∧ Below w0.heap.size w0 w' ∧ Kept w w' (fun k_ => P0_ k_) := by
 have ap := Aside0.mk (show Kd.R k58 58 w w0.heap.size (fun k_ => (P0_ k_ ∨ w.heap.size ≤ k_)) u9000_ l0 from Kd.R_mono ho0 (fun k_ hk => (.inl hk)))
 have HK := Aside0.mk (Kept.refl w (fun k_ => P0_ k_))
 have HW0 := Aside0.mk hB.size
 have HB := Aside0.mk hB
 clear hB
 have H : (laws_markTalkS.l0 k l0 a1 0) = some (r1, r2) := h
 clear h
 have H' := Aside0.mk H
 clear H
 go_enter Try.func29, Try.ntmps29
 go_wp2
 go_loopg [1, 5] k (fun kq v1 v5 w' => ∃ (x0_1 : List (S58)) (x1_1 : Int) (x5_1 : Int), v1 = .int .i64 x1_1 ∧ v5 = .int .i64 x5_1 ∧ Aside0 (laws_markTalkS.l0 kq x0_1 x1_1 x5_1 = some (r1, r2)) ∧ Aside0 (kq ≤ k) ∧ Aside0 (Kd.R k58 58 w' w0.heap.size (fun k_ => (P0_ k_ ∨ w.heap.size ≤ k_)) u9000_ x0_1) ∧ Aside0 (Kept w w' (fun k_ => P0_ k_)) ∧ Aside0 (Below w0.heap.size w0 w'))
 case atStart => exact ⟨(l0), (a1), (0), (by first | rfl | (simp; done) | (simp [*]; done)), (by first | rfl | (simp; done) | (simp [*]; done)), H', ⟨Nat.le_refl _⟩, ⟨by (with_reducible repeat first | apply rA_ | apply rN_ | apply rD_); exact ap.out⟩, ⟨by repeat (first | (with_reducible first | exact HK.out | apply Kept.alloc | apply Kept.drewN | apply Kept.drew) | exact HK.out)⟩, ⟨by repeat (first | (with_reducible first | exact HB.out | apply lA1_ | apply lN_ | apply lD_) | exact HB.out)⟩⟩
 case round =>
  clear H'
  try clear c2
  try clear p2
  obtain ⟨x0_1, x1_1, x5_1, rfl, rfl, HA, HK1, a0, HK, HB⟩ := hrel
  cases gk with
  | zero => exact absurd HA.out (by simp [laws_markTalkS.l0])
  | succ k1 =>
   have H := HA.out
   clear HA
   simp only [laws_markTalkS.l0] at H
   by_cases c3 : x5_1 < (x0_1.length : Int)
   ·rw [if_pos c3] at H
    have c3b0 : decide (x5_1 < (x0_1.length : Int)) = true := decide_eq_true c3
    clear c3
    by_cases c4 : 0 ≤ x5_1
    ·rw [if_pos c4] at H
     have c4b0 : decide (0 ≤ x5_1) = true := decide_eq_true c4
     clear c4
     replace H := Option.bind_eq_some_iff.mp H
     obtain ⟨y185, hy185, H⟩ := H
     replace hy185 := (Option.some.inj hy185).symm
     try dsimp only at H
     have a4 := Aside0.mk hy185
     clear hy185
     replace H := Option.bind_eq_some_iff.mp H
     obtain ⟨y186, hy186, H⟩ := H
     replace hy186 := (Option.some.inj hy186).symm
     try dsimp only at H
     have a5 := Aside0.mk hy186
     clear hy186
     replace H := Option.bind_eq_some_iff.mp H
     obtain ⟨y187, hy187, H⟩ := H
     replace hy187 := (Option.some.inj hy187).symm
     try dsimp only at H
     have a6 := Aside0.mk hy187
     clear hy187
     replace H := Option.bind_eq_some_iff.mp H
     obtain ⟨y188, hy188, H⟩ := H
     replace hy188 := (Option.some.inj hy188).symm
     try dsimp only at H
     have a7 := Aside0.mk hy188
     clear hy188
     replace H := Option.bind_eq_some_iff.mp H
     obtain ⟨y189, hy189, H⟩ := H
     replace hy189 := (Option.some.inj hy189).symm
     try dsimp only at H
     have a8 := Aside0.mk hy189
     clear hy189
     replace H := Option.bind_eq_some_iff.mp H
     obtain ⟨y190, hy190, H⟩ := H
     replace hy190 := (Option.some.inj hy190).symm
     try dsimp only at H
     have a9 := Aside0.mk hy190
     clear hy190
     replace H := Option.bind_eq_some_iff.mp H
     obtain ⟨y191, hy191, H⟩ := H
     replace hy191 := (Option.some.inj hy191).symm
     try dsimp only at H
     have aa := Aside0.mk hy191
     clear hy191
     replace H := Option.bind_eq_some_iff.mp H
     obtain ⟨y192, hy192, H⟩ := H
     replace hy192 := (Option.some.inj hy192).symm
     try dsimp only at H
     have ab := Aside0.mk hy192
     clear hy192
     replace H := Option.bind_eq_some_iff.mp H
     obtain ⟨y193, hy193, H⟩ := H
     replace hy193 := (Option.some.inj hy193).symm
     try dsimp only at H
     have ac := Aside0.mk hy193
     clear hy193
     replace H := Option.bind_eq_some_iff.mp H
     obtain ⟨y194, hy194, H⟩ := H
     replace hy194 := (Option.some.inj hy194).symm
     try dsimp only at H
     have ad := Aside0.mk hy194
     clear hy194
     replace H := Option.bind_eq_some_iff.mp H
     obtain ⟨y195, hy195, H⟩ := H
     replace hy195 := (Option.some.inj hy195).symm
     try dsimp only at H
     have ae := Aside0.mk hy195
     clear hy195
     replace H := Option.bind_eq_some_iff.mp H
     obtain ⟨y196, hy196, H⟩ := H
     replace hy196 := (Option.some.inj hy196).symm
     try dsimp only at H
     have af := Aside0.mk hy196
     clear hy196
     replace H := Option.bind_eq_some_iff.mp H
     obtain ⟨y197, hy197, H⟩ := H
     replace hy197 := (Option.some.inj hy197).symm
     try dsimp only at H
     have ag := Aside0.mk hy197
     clear hy197
     replace H := Option.bind_eq_some_iff.mp H
     obtain ⟨y198, hy198, H⟩ := H
     replace hy198 := (Option.some.inj hy198).symm
     try dsimp only at H
     have ah := Aside0.mk hy198
     clear hy198
     replace H := Option.bind_eq_some_iff.mp H
     obtain ⟨y199, hy199, H⟩ := H
     replace hy199 := (Option.some.inj hy199).symm
     try dsimp only at H
     have ai := Aside0.mk hy199
     clear hy199
     replace H := Option.bind_eq_some_iff.mp H
     obtain ⟨y200, hy200, H⟩ := H
     replace hy200 := (Option.some.inj hy200).symm
     try dsimp only at H
     have aj := Aside0.mk hy200
     clear hy200
     replace H := Option.bind_eq_some_iff.mp H
     obtain ⟨y201, hy201, H⟩ := H
     replace hy201 := (Option.some.inj hy201).symm
     try dsimp only at H
     have ak := Aside0.mk hy201
     clear hy201
     replace H := Option.bind_eq_some_iff.mp H
     obtain ⟨y202, hy202, H⟩ := H
     replace hy202 := (Option.some.inj hy202).symm
     try dsimp only at H
     have al := Aside0.mk hy202
     clear hy202
     replace H := Option.bind_eq_some_iff.mp H
     obtain ⟨y203, hy203, H⟩ := H
     replace hy203 := (Option.some.inj hy203).symm
     try dsimp only at H
     have am := Aside0.mk hy203
     clear hy203
     obtain ⟨y204, hy204⟩ : ∃ y_ : List (S58), y_ = (y203.set (x5_1 : Int).toNat (⟨(rd_T58 y203 x5_1).f0, (rd_T58 y203 x5_1).f1, (rd_T58 y203 x5_1).f2, (rd_T58 y203 x5_1).f3, (rd_T58 y203 x5_1).f4, (rd_T58 y203 x5_1).f5, (rd_T58 y203 x5_1).f6, (rd_T58 y203 x5_1).f7, (rd_T58 y203 x5_1).f8, (rd_T58 y203 x5_1).f9, (rd_T58 y203 x5_1).f10, (⟨(rd_T58 y203 x5_1).f11.f0, (rd_T58 y203 x5_1).f11.f1, (rd_T58 y203 x5_1).f11.f2, (rd_T58 y203 x5_1).f11.f3⟩ : S54), (rd_T58 y203 x5_1).f12, (rd_T58 y203 x5_1).f13, (rd_T58 y203 x5_1).f14, (⟨(rd_T58 y203 x5_1).f15.f0, wrap64 ((wrap64 ((wrap64 ((wrap64 ((wrap64 ((wrap64 ((wrap64 ((wrap64 ((wrap64 ((wrap64 ((wrap64 ((wrap64 ((wrap64 ((wrap64 ((wrap64 ((wrap64 ((wrap64 ((wrap64 ((wrap64 (x1_1 + 1)) + 1)) + 1)) + 1)) + 1)) + 1)) + 1)) + 1)) + 1)) + 1)) + 1)) + 1)) + 1)) + 1)) + 1)) + 1)) + 1)) + 1)) + 1)⟩ : S56)⟩ : S58)) := ⟨_, rfl⟩
     replace H : (laws_markTalkS.l0 k1 y204 (wrap64 ((wrap64 ((wrap64 ((wrap64 ((wrap64 ((wrap64 ((wrap64 ((wrap64 ((wrap64 ((wrap64 ((wrap64 ((wrap64 ((wrap64 ((wrap64 ((wrap64 ((wrap64 ((wrap64 ((wrap64 ((wrap64 ((wrap64 (x1_1 + 1)) + 1)) + 1)) + 1)) + 1)) + 1)) + 1)) + 1)) + 1)) + 1)) + 1)) + 1)) + 1)) + 1)) + 1)) + 1)) + 1)) + 1)) + 1)) + 1)) (wrap64 (x5_1 + 1))) = some (r1, r2) := by first | (rw [hy204]; with_reducible exact H) | (have H2_ := (Option.bind_some _ _).symm.trans H; rw [hy204]; with_reducible exact H2_) | (have H2_ := (Option.bind_some _ _).symm.trans H; with_reducible exact H2_) | with_reducible exact H | (rw [hy204]; exact H) | exact H
     have an := Aside0.mk hy204
     clear hy204
     have H' := Aside0.mk H
     clear H
     obtain ⟨aq, a2, eo25⟩ := Kd.R_slice a0.out
     subst eo25
     have p5 : 0 ≤ (x5_1 : Int) := of_decide_eq_true (by first | (with_reducible assumption) | assumption)
     have q5 : (x5_1 : Int) < ((x0_1.length : Int) : Int) := of_decide_eq_true (by first | (with_reducible assumption) | assumption)
     obtain ⟨go5, av, eo5, ao, gl5, cl5, HG5⟩ := Kd.R_form a0.out (by omega)
     (first | cases eo5 | (injection eo5 with ea_ en_ ec_; (first | subst ea_ | (injection ea_ with ea_; subst ea_)); subst ec_; clear en_))
     have a3 := Aside0.mk ao
     have GG5 := Aside0.mk HG5
     clear ao gl5 HG5
     have HMgo5 := Aside0.mk (show (P0_ go5 ∨ w.heap.size ≤ go5) from (a0.out.1 _ rfl))
     obtain ⟨ce5, hcl5, hM5, hcc5, hfr5⟩ := Kd.R_elem a0.out z58 (x5_1 : Int) p5 q5
     obtain rfl := k58_openM hM5
     have hx5_0 : wr.cell? ⟨go5, (x5_1 : Int).toNat * 20, none⟩ = some (.int .i64 ((rd_T58 x0_1 x5_1).f0)) := hcc5 0 _ rfl
     have hx5_1 : wr.cell? ⟨go5, (x5_1 : Int).toNat * 20 + 1, none⟩ = some (.int .i64 ((rd_T58 x0_1 x5_1).f1)) := hcc5 1 _ rfl
     have hx5_2 : wr.cell? ⟨go5, (x5_1 : Int).toNat * 20 + 2, none⟩ = some (.int .i64 ((rd_T58 x0_1 x5_1).f2)) := hcc5 2 _ rfl
     have hx5_3 : wr.cell? ⟨go5, (x5_1 : Int).toNat * 20 + 3, none⟩ = some (.int .i64 ((rd_T58 x0_1 x5_1).f3)) := hcc5 3 _ rfl
     have hx5_4 : wr.cell? ⟨go5, (x5_1 : Int).toNat * 20 + 4, none⟩ = some (.int .i64 ((rd_T58 x0_1 x5_1).f4)) := hcc5 4 _ rfl
     have hx5_5 : wr.cell? ⟨go5, (x5_1 : Int).toNat * 20 + 5, none⟩ = some (.int .i64 ((rd_T58 x0_1 x5_1).f5)) := hcc5 5 _ rfl
     have hx5_6 : wr.cell? ⟨go5, (x5_1 : Int).toNat * 20 + 6, none⟩ = some (.int .i64 ((rd_T58 x0_1 x5_1).f6)) := hcc5 6 _ rfl
     have hx5_7 : wr.cell? ⟨go5, (x5_1 : Int).toNat * 20 + 7, none⟩ = some (.int .i64 ((rd_T58 x0_1 x5_1).f7)) := hcc5 7 _ rfl
     have hx5_8 : wr.cell? ⟨go5, (x5_1 : Int).toNat * 20 + 8, none⟩ = some (.int .i64 ((rd_T58 x0_1 x5_1).f8)) := hcc5 8 _ rfl
     have hx5_9 : wr.cell? ⟨go5, (x5_1 : Int).toNat * 20 + 9, none⟩ = some (.int .i64 ((rd_T58 x0_1 x5_1).f9)) := hcc5 9 _ rfl
     have hx5_10 : wr.cell? ⟨go5, (x5_1 : Int).toNat * 20 + 10, none⟩ = some (.int .i64 ((rd_T58 x0_1 x5_1).f10)) := hcc5 10 _ rfl
     have hx5_11 : wr.cell? ⟨go5, (x5_1 : Int).toNat * 20 + 11, none⟩ = some (.int .i64 ((rd_T58 x0_1 x5_1).f11.f0)) := hcc5 11 _ rfl
     have hx5_12 : wr.cell? ⟨go5, (x5_1 : Int).toNat * 20 + 12, none⟩ = some (.int .i64 ((rd_T58 x0_1 x5_1).f11.f1)) := hcc5 12 _ rfl
     have hx5_13 : wr.cell? ⟨go5, (x5_1 : Int).toNat * 20 + 13, none⟩ = some (.int .i64 ((rd_T58 x0_1 x5_1).f11.f2)) := hcc5 13 _ rfl
     have hx5_14 : wr.cell? ⟨go5, (x5_1 : Int).toNat * 20 + 14, none⟩ = some (.int .i64 ((rd_T58 x0_1 x5_1).f11.f3)) := hcc5 14 _ rfl
     have hx5_15 : wr.cell? ⟨go5, (x5_1 : Int).toNat * 20 + 15, none⟩ = some (.int .i64 ((rd_T58 x0_1 x5_1).f12)) := hcc5 15 _ rfl
     have hx5_16 : wr.cell? ⟨go5, (x5_1 : Int).toNat * 20 + 16, none⟩ = some (.int .i64 ((rd_T58 x0_1 x5_1).f13)) := hcc5 16 _ rfl
     have hx5_17 : wr.cell? ⟨go5, (x5_1 : Int).toNat * 20 + 17, none⟩ = some (.int .i64 ((rd_T58 x0_1 x5_1).f14)) := hcc5 17 _ rfl
     have hx5_18 : wr.cell? ⟨go5, (x5_1 : Int).toNat * 20 + 18, none⟩ = some (.int .i64 ((rd_T58 x0_1 x5_1).f15.f0)) := hcc5 18 _ rfl
     have hx5_19 : wr.cell? ⟨go5, (x5_1 : Int).toNat * 20 + 19, none⟩ = some (.int .i64 ((rd_T58 x0_1 x5_1).f15.f1)) := hcc5 19 _ rfl
     have hf5_0 : wr.frozen? ⟨go5, (x5_1 : Int).toNat * 20, none⟩ = false := hfr5 0
     have hf5_1 : wr.frozen? ⟨go5, (x5_1 : Int).toNat * 20 + 1, none⟩ = false := hfr5 1
     have hf5_2 : wr.frozen? ⟨go5, (x5_1 : Int).toNat * 20 + 2, none⟩ = false := hfr5 2
     have hf5_3 : wr.frozen? ⟨go5, (x5_1 : Int).toNat * 20 + 3, none⟩ = false := hfr5 3
     have hf5_4 : wr.frozen? ⟨go5, (x5_1 : Int).toNat * 20 + 4, none⟩ = false := hfr5 4
     have hf5_5 : wr.frozen? ⟨go5, (x5_1 : Int).toNat * 20 + 5, none⟩ = false := hfr5 5
     have hf5_6 : wr.frozen? ⟨go5, (x5_1 : Int).toNat * 20 + 6, none⟩ = false := hfr5 6
     have hf5_7 : wr.frozen? ⟨go5, (x5_1 : Int).toNat * 20 + 7, none⟩ = false := hfr5 7
     have hf5_8 : wr.frozen? ⟨go5, (x5_1 : Int).toNat * 20 + 8, none⟩ = false := hfr5 8
     have hf5_9 : wr.frozen? ⟨go5, (x5_1 : Int).toNat * 20 + 9, none⟩ = false := hfr5 9
     have hf5_10 : wr.frozen? ⟨go5, (x5_1 : Int).toNat * 20 + 10, none⟩ = false := hfr5 10
     have hf5_11 : wr.frozen? ⟨go5, (x5_1 : Int).toNat * 20 + 11, none⟩ = false := hfr5 11
     have hf5_12 : wr.frozen? ⟨go5, (x5_1 : Int).toNat * 20 + 12, none⟩ = false := hfr5 12
     have hf5_13 : wr.frozen? ⟨go5, (x5_1 : Int).toNat * 20 + 13, none⟩ = false := hfr5 13
     have hf5_14 : wr.frozen? ⟨go5, (x5_1 : Int).toNat * 20 + 14, none⟩ = false := hfr5 14
     have hf5_15 : wr.frozen? ⟨go5, (x5_1 : Int).toNat * 20 + 15, none⟩ = false := hfr5 15
     have hf5_16 : wr.frozen? ⟨go5, (x5_1 : Int).toNat * 20 + 16, none⟩ = false := hfr5 16
     have hf5_17 : wr.frozen? ⟨go5, (x5_1 : Int).toNat * 20 + 17, none⟩ = false := hfr5 17
     have hf5_18 : wr.frozen? ⟨go5, (x5_1 : Int).toNat * 20 + 18, none⟩ = false := hfr5 18
     have hf5_19 : wr.frozen? ⟨go5, (x5_1 : Int).toNat * 20 + 19, none⟩ = false := hfr5 19
     clear hcl5 hcc5 hfr5 hM5
     replace p5 := eq_true p5
     replace q5 := eq_true q5
     have HX26 := Aside0.mk (show Kd.R k58 58 wr w0.heap.size (fun k_ => (P0_ k_ ∨ w.heap.size ≤ k_)) (.slice (some ⟨go5, 0, none⟩) x0_1.length a2) x0_1 from (by (with_reducible repeat first | apply rA_ | apply rN_ | apply rD_); exact a0.out))
     obtain ⟨ce26, hcl26, hM26, hcc26, hfr26⟩ := Kd.R_elem HX26.out z58 (x5_1 : Int) (of_decide_eq_true (by first | (with_reducible assumption) | assumption)) (by have h_ : (x5_1 : Int) < ((x0_1.length : Int) : Int) := of_decide_eq_true (by first | (with_reducible assumption) | assumption); first | exact h_ | (have e_ := (Kd.R_reads' a0.out).1; omega) | simpa using h_)
     obtain rfl := k58_openM hM26
     have HP26 := Kd.R_seg HX26.out (x5_1 : Int) (of_decide_eq_true (by first | (with_reducible assumption) | assumption)) (by have h_ : (x5_1 : Int) < ((x0_1.length : Int) : Int) := of_decide_eq_true (by first | (with_reducible assumption) | assumption); first | exact h_ | (have e_ := (Kd.R_reads' a0.out).1; omega) | simpa using h_) (seg := [.int .i64 x1_1]) (j := 0) hcl26 hcc26 (show 1 ≤ 20 from by decide) (k58_mkM _ _ _ (⟨x1_1, (rd_T58 x0_1 x5_1).f1, (rd_T58 x0_1 x5_1).f2, (rd_T58 x0_1 x5_1).f3, (rd_T58 x0_1 x5_1).f4, (rd_T58 x0_1 x5_1).f5, (rd_T58 x0_1 x5_1).f6, (rd_T58 x0_1 x5_1).f7, (rd_T58 x0_1 x5_1).f8, (rd_T58 x0_1 x5_1).f9, (rd_T58 x0_1 x5_1).f10, (⟨(rd_T58 x0_1 x5_1).f11.f0, (rd_T58 x0_1 x5_1).f11.f1, (rd_T58 x0_1 x5_1).f11.f2, (rd_T58 x0_1 x5_1).f11.f3⟩ : S54), (rd_T58 x0_1 x5_1).f12, (rd_T58 x0_1 x5_1).f13, (rd_T58 x0_1 x5_1).f14, (⟨(rd_T58 x0_1 x5_1).f15.f0, (rd_T58 x0_1 x5_1).f15.f1⟩ : S56)⟩ : S58) ) (fun _ hk => hk)
     have hx26_0 := hcc26 0 _ rfl
     (try simp only [show (k58).sz = 20 from rfl, Nat.mul_one, Nat.add_zero] at hx26_0)
     have hf26_0 := hfr26 0
     (try simp only [show (k58).sz = 20 from rfl, Nat.mul_one, Nat.add_zero] at hf26_0)
     clear hcl26 hcc26 hfr26 hM26
     go_wp2_with (first | ((with_reducible refine gate_store (t := 2) (p := 16) rfl ?_); refine store_event (t := 2) (p := 16) (v := ?vo_w27) (w1 := (wr.setCell ⟨go5, (x5_1 : Int).toNat * 20, none⟩ (.int .i64 x1_1))) ?hg ?ho ?hn ?hr ?_; (case ho => rfl); (case hg => rfl); (case hn => rfl); (case hr => first | (go_simp; done) | (go_simp; rfl)); intro w27 hw; have hg : wr.grownBy w27 (some go5) := (by rw [hw]; exact HP26.2); have hp_ : Kd.R k58 58 w27 w0.heap.size (fun k_ => (P0_ k_ ∨ w.heap.size ≤ k_)) (.slice (some ⟨go5, 0, none⟩) x0_1.length a2) y185 := (by rw [hw, a4.out]; exact HP26.1); clear HP26; have n0_ := Aside0.mk (hp_); have n1_ := Aside0.mk ((by rw [hw]; exact lS1_ (HB.out) a3.out : Below w0.heap.size w0 w27)); have n2_ := Aside0.mk (Kept.of_grown (S := (fun k_ => P0_ k_)) hg (by repeat (first | (with_reducible first | exact HK.out | apply Kept.alloc | apply Kept.drewN | apply Kept.drew) | exact HK.out)) (fun k_ e_ => (a0.out.1 k_ e_))); clear a0 HB HK; have a0 := n0_; have HB := n1_; have HK := n2_; clear n0_ n1_ n2_ hg hw hp_; have p6 : 0 ≤ (x5_1 : Int) := of_decide_eq_true (by first | (with_reducible assumption) | assumption); have q6 : (x5_1 : Int) < ((x0_1.length : Int) : Int) := of_decide_eq_true (by first | (with_reducible assumption) | assumption); replace p6 := eq_true p6; replace q6 := eq_true q6; have HX28 := Aside0.mk (show Kd.R k58 58 w27 w0.heap.size (fun k_ => (P0_ k_ ∨ w.heap.size ≤ k_)) (.slice (some ⟨go5, 0, none⟩) x0_1.length a2) y185 from (by (with_reducible repeat first | apply rA_ | apply rN_ | apply rD_); exact a0.out)); obtain ⟨ce28, hcl28, hM28, hcc28, hfr28⟩ := Kd.R_elem HX28.out z58 (x5_1 : Int) (of_decide_eq_true (by first | (with_reducible assumption) | assumption)) (by have h_ : (x5_1 : Int) < ((x0_1.length : Int) : Int) := of_decide_eq_true (by first | (with_reducible assumption) | assumption); first | exact h_ | (have e_ := (Kd.R_reads' a0.out).1; omega) | simpa using h_); obtain rfl := k58_openM hM28; have HP28 := Kd.R_seg HX28.out (x5_1 : Int) (of_decide_eq_true (by first | (with_reducible assumption) | assumption)) (by have h_ : (x5_1 : Int) < ((x0_1.length : Int) : Int) := of_decide_eq_true (by first | (with_reducible assumption) | assumption); first | exact h_ | (have e_ := (Kd.R_reads' a0.out).1; omega) | simpa using h_) (seg := [.int .i64 (wrap64 (x1_1 + 1))]) (j := 1) hcl28 hcc28 (show 2 ≤ 20 from by decide) (k58_mkM _ _ _ (⟨(rd_T58 y185 x5_1).f0, wrap64 (x1_1 + 1), (rd_T58 y185 x5_1).f2, (rd_T58 y185 x5_1).f3, (rd_T58 y185 x5_1).f4, (rd_T58 y185 x5_1).f5, (rd_T58 y185 x5_1).f6, (rd_T58 y185 x5_1).f7, (rd_T58 y185 x5_1).f8, (rd_T58 y185 x5_1).f9, (rd_T58 y185 x5_1).f10, (⟨(rd_T58 y185 x5_1).f11.f0, (rd_T58 y185 x5_1).f11.f1, (rd_T58 y185 x5_1).f11.f2, (rd_T58 y185 x5_1).f11.f3⟩ : S54), (rd_T58 y185 x5_1).f12, (rd_T58 y185 x5_1).f13, (rd_T58 y185 x5_1).f14, (⟨(rd_T58 y185 x5_1).f15.f0, (rd_T58 y185 x5_1).f15.f1⟩ : S56)⟩ : S58) ) (fun _ hk => hk); have hx28_1 := hcc28 1 _ rfl; (try simp only [show (k58).sz = 20 from rfl, Nat.mul_one, Nat.add_zero] at hx28_1); have hf28_1 := hfr28 1; (try simp only [show (k58).sz = 20 from rfl, Nat.mul_one, Nat.add_zero] at hf28_1); clear hcl28 hcc28 hfr28 hM28) | ((with_reducible refine gate_store (t := 2) (p := 23) rfl ?_); refine store_event (t := 2) (p := 23) (v := ?vo_w29) (w1 := (w27.setCell ⟨go5, (x5_1 : Int).toNat * 20 + 1, none⟩ (.int .i64 (wrap64 (x1_1 + 1))))) ?hg ?ho ?hn ?hr ?_; (case ho => rfl); (case hg => rfl); (case hn => rfl); (case hr => first | (go_simp; done) | (go_simp; rfl)); intro w29 hw; have hg : w27.grownBy w29 (some go5) := (by rw [hw]; exact HP28.2); have hp_ : Kd.R k58 58 w29 w0.heap.size (fun k_ => (P0_ k_ ∨ w.heap.size ≤ k_)) (.slice (some ⟨go5, 0, none⟩) x0_1.length a2) y186 := (by rw [hw, a5.out]; exact HP28.1); clear HP28; have n0_ := Aside0.mk (hp_); have n1_ := Aside0.mk ((by rw [hw]; exact lS1_ (HB.out) a3.out : Below w0.heap.size w0 w29)); have n2_ := Aside0.mk (Kept.of_grown (S := (fun k_ => P0_ k_)) hg (by repeat (first | (with_reducible first | exact HK.out | apply Kept.alloc | apply Kept.drewN | apply Kept.drew) | exact HK.out)) (fun k_ e_ => (a0.out.1 k_ e_))); clear a0 HB HK; have a0 := n0_; have HB := n1_; have HK := n2_; clear n0_ n1_ n2_ hg hw hp_; have p7 : 0 ≤ (x5_1 : Int) := of_decide_eq_true (by first | (with_reducible assumption) | assumption); have q7 : (x5_1 : Int) < ((x0_1.length : Int) : Int) := of_decide_eq_true (by first | (with_reducible assumption) | assumption); replace p7 := eq_true p7; replace q7 := eq_true q7; have HX30 := Aside0.mk (show Kd.R k58 58 w29 w0.heap.size (fun k_ => (P0_ k_ ∨ w.heap.size ≤ k_)) (.slice (some ⟨go5, 0, none⟩) x0_1.length a2) y186 from a0.out); obtain ⟨ce30, hcl30, hM30, hcc30, hfr30⟩ := Kd.R_elem HX30.out z58 (x5_1 : Int) (of_decide_eq_true (by first | (with_reducible assumption) | assumption)) (by have h_ : (x5_1 : Int) < ((x0_1.length : Int) : Int) := of_decide_eq_true (by first | (with_reducible assumption) | assumption); first | exact h_ | (have e_ := (Kd.R_reads' a0.out).1; omega) | simpa using h_); obtain rfl := k58_openM hM30; have HP30 := Kd.R_seg HX30.out (x5_1 : Int) (of_decide_eq_true (by first | (with_reducible assumption) | assumption)) (by have h_ : (x5_1 : Int) < ((x0_1.length : Int) : Int) := of_decide_eq_true (by first | (with_reducible assumption) | assumption); first | exact h_ | (have e_ := (Kd.R_reads' a0.out).1; omega) | simpa using h_) (seg := [.int .i64 (wrap64 ((wrap64 (x1_1 + 1)) + 1))]) (j := 2) hcl30 hcc30 (show 3 ≤ 20 from by decide) (k58_mkM _ _ _ (⟨(rd_T58 y186 x5_1).f0, (rd_T58 y186 x5_1).f1, wrap64 ((wrap64 (x1_1 + 1)) + 1), (rd_T58 y186 x5_1).f3, (rd_T58 y186 x5_1).f4, (rd_T58 y186 x5_1).f5, (rd_T58 y186 x5_1).f6, (rd_T58 y186 x5_1).f7, (rd_T58 y186 x5_1).f8, (rd_T58 y186 x5_1).f9, (rd_T58 y186 x5_1).f10, (⟨(rd_T58 y186 x5_1).f11.f0, (rd_T58 y186 x5_1).f11.f1, (rd_T58 y186 x5_1).f11.f2, (rd_T58 y186 x5_1).f11.f3⟩ : S54), (rd_T58 y186 x5_1).f12, (rd_T58 y186 x5_1).f13, (rd_T58 y186 x5_1).f14, (⟨(rd_T58 y186 x5_1).f15.f0, (rd_T58 y186 x5_1).f15.f1⟩ : S56)⟩ : S58) ) (fun _ hk => hk); have hx30_2 := hcc30 2 _ rfl; (try simp only [show (k58).sz = 20 from rfl, Nat.mul_one, Nat.add_zero] at hx30_2); have hf30_2 := hfr30 2; (try simp only [show (k58).sz = 20 from rfl, Nat.mul_one, Nat.add_zero] at hf30_2); clear hcl30 hcc30 hfr30 hM30) | ((with_reducible refine gate_store (t := 2) (p := 30) rfl ?_); refine store_event (t := 2) (p := 30) (v := ?vo_w31) (w1 := (w29.setCell ⟨go5, (x5_1 : Int).toNat * 20 + 2, none⟩ (.int .i64 (wrap64 ((wrap64 (x1_1 + 1)) + 1))))) ?hg ?ho ?hn ?hr ?_; (case ho => rfl); (case hg => rfl); (case hn => rfl); (case hr => first | (go_simp; done) | (go_simp; rfl)); intro w31 hw; have hg : w29.grownBy w31 (some go5) := (by rw [hw]; exact HP30.2); have hp_ : Kd.R k58 58 w31 w0.heap.size (fun k_ => (P0_ k_ ∨ w.heap.size ≤ k_)) (.slice (some ⟨go5, 0, none⟩) x0_1.length a2) y187 := (by rw [hw, a6.out]; exact HP30.1); clear HP30; have n0_ := Aside0.mk (hp_); have n1_ := Aside0.mk ((by rw [hw]; exact lS1_ (HB.out) a3.out : Below w0.heap.size w0 w31)); have n2_ := Aside0.mk (Kept.of_grown (S := (fun k_ => P0_ k_)) hg (by repeat (first | (with_reducible first | exact HK.out | apply Kept.alloc | apply Kept.drewN | apply Kept.drew) | exact HK.out)) (fun k_ e_ => (a0.out.1 k_ e_))); clear a0 HB HK; have a0 := n0_; have HB := n1_; have HK := n2_; clear n0_ n1_ n2_ hg hw hp_; have p8 : 0 ≤ (x5_1 : Int) := of_decide_eq_true (by first | (with_reducible assumption) | assumption); have q8 : (x5_1 : Int) < ((x0_1.length : Int) : Int) := of_decide_eq_true (by first | (with_reducible assumption) | assumption); replace p8 := eq_true p8; replace q8 := eq_true q8; have HX32 := Aside0.mk (show Kd.R k58 58 w31 w0.heap.size (fun k_ => (P0_ k_ ∨ w.heap.size ≤ k_)) (.slice (some ⟨go5, 0, none⟩) x0_1.length a2) y187 from a0.out); obtain ⟨ce32, hcl32, hM32, hcc32, hfr32⟩ := Kd.R_elem HX32.out z58 (x5_1 : Int) (of_decide_eq_true (by first | (with_reducible assumption) | assumption)) (by have h_ : (x5_1 : Int) < ((x0_1.length : Int) : Int) := of_decide_eq_true (by first | (with_reducible assumption) | assumption); first | exact h_ | (have e_ := (Kd.R_reads' a0.out).1; omega) | simpa using h_); obtain rfl := k58_openM hM32; have HP32 := Kd.R_seg HX32.out (x5_1 : Int) (of_decide_eq_true (by first | (with_reducible assumption) | assumption)) (by have h_ : (x5_1 : Int) < ((x0_1.length : Int) : Int) := of_decide_eq_true (by first | (with_reducible assumption) | assumption); first | exact h_ | (have e_ := (Kd.R_reads' a0.out).1; omega) | simpa using h_) (seg := [.int .i64 (wrap64 ((wrap64 ((wrap64 (x1_1 + 1)) + 1)) + 1))]) (j := 3) hcl32 hcc32 (show 4 ≤ 20 from by decide) (k58_mkM _ _ _ (⟨(rd_T58 y187 x5_1).f0, (rd_T58 y187 x5_1).f1, (rd_T58 y187 x5_1).f2, wrap64 ((wrap64 ((wrap64 (x1_1 + 1)) + 1)) + 1), (rd_T58 y187 x5_1).f4, (rd_T58 y187 x5_1).f5, (rd_T58 y187 x5_1).f6, (rd_T58 y187 x5_1).f7, (rd_T58 y187 x5_1).f8, (rd_T58 y187 x5_1).f9, (rd_T58 y187 x5_1).f10, (⟨(rd_T58 y187 x5_1).f11.f0, (rd_T58 y187 x5_1).f11.f1, (rd_T58 y187 x5_1).f11.f2, (rd_T58 y187 x5_1).f11.f3⟩ : S54), (rd_T58 y187 x5_1).f12, (rd_T58 y187 x5_1).f13, (rd_T58 y187 x5_1).f14, (⟨(rd_T58 y187 x5_1).f15.f0, (rd_T58 y187 x5_1).f15.f1⟩ : S56)⟩ : S58) ) (fun _ hk => hk); have hx32_3 := hcc32 3 _ rfl; (try simp only [show (k58).sz = 20 from rfl, Nat.mul_one, Nat.add_zero] at hx32_3); have hf32_3 := hfr32 3; (try simp only [show (k58).sz = 20 from rfl, Nat.mul_one, Nat.add_zero] at hf32_3); clear hcl32 hcc32 hfr32 hM32) | ((with_reducible refine gate_store (t := 2) (p := 37) rfl ?_); refine store_event (t := 2) (p := 37) (v := ?vo_w33) (w1 := (w31.setCell ⟨go5, (x5_1 : Int).toNat * 20 + 3, none⟩ (.int .i64 (wrap64 ((wrap64 ((wrap64 (x1_1 + 1)) + 1)) + 1))))) ?hg ?ho ?hn ?hr ?_; (case ho => rfl); (case hg => rfl); (case hn => rfl); (case hr => first | (go_simp; done) | (go_simp; rfl)); intro w33 hw; have hg : w31.grownBy w33 (some go5) := (by rw [hw]; exact HP32.2); have hp_ : Kd.R k58 58 w33 w0.heap.size (fun k_ => (P0_ k_ ∨ w.heap.size ≤ k_)) (.slice (some ⟨go5, 0, none⟩) x0_1.length a2) y188 := (by rw [hw, a7.out]; exact HP32.1); clear HP32; have n0_ := Aside0.mk (hp_); have n1_ := Aside0.mk ((by rw [hw]; exact lS1_ (HB.out) a3.out : Below w0.heap.size w0 w33)); have n2_ := Aside0.mk (Kept.of_grown (S := (fun k_ => P0_ k_)) hg (by repeat (first | (with_reducible first | exact HK.out | apply Kept.alloc | apply Kept.drewN | apply Kept.drew) | exact HK.out)) (fun k_ e_ => (a0.out.1 k_ e_))); clear a0 HB HK; have a0 := n0_; have HB := n1_; have HK := n2_; clear n0_ n1_ n2_ hg hw hp_; have p9 : 0 ≤ (x5_1 : Int) := of_decide_eq_true (by first | (with_reducible assumption) | assumption); have q9 : (x5_1 : Int) < ((x0_1.length : Int) : Int) := of_decide_eq_true (by first | (with_reducible assumption) | assumption); replace p9 := eq_true p9; replace q9 := eq_true q9; have HX34 := Aside0.mk (show Kd.R k58 58 w33 w0.heap.size (fun k_ => (P0_ k_ ∨ w.heap.size ≤ k_)) (.slice (some ⟨go5, 0, none⟩) x0_1.length a2) y188 from a0.out); obtain ⟨ce34, hcl34, hM34, hcc34, hfr34⟩ := Kd.R_elem HX34.out z58 (x5_1 : Int) (of_decide_eq_true (by first | (with_reducible assumption) | assumption)) (by have h_ : (x5_1 : Int) < ((x0_1.length : Int) : Int) := of_decide_eq_true (by first | (with_reducible assumption) | assumption); first | exact h_ | (have e_ := (Kd.R_reads' a0.out).1; omega) | simpa using h_); obtain rfl := k58_openM hM34; have HP34 := Kd.R_seg HX34.out (x5_1 : Int) (of_decide_eq_true (by first | (with_reducible assumption) | assumption)) (by have h_ : (x5_1 : Int) < ((x0_1.length : Int) : Int) := of_decide_eq_true (by first | (with_reducible assumption) | assumption); first | exact h_ | (have e_ := (Kd.R_reads' a0.out).1; omega) | simpa using h_) (seg := [.int .i64 (wrap64 ((wrap64 ((wrap64 ((wrap64 (x1_1 + 1)) + 1)) + 1)) + 1))]) (j := 4) hcl34 hcc34 (show 5 ≤ 20 from by decide) (k58_mkM _ _ _ (⟨(rd_T58 y188 x5_1).f0, (rd_T58 y188 x5_1).f1, (rd_T58 y188 x5_1).f2, (rd_T58 y188 x5_1).f3, wrap64 ((wrap64 ((wrap64 ((wrap64 (x1_1 + 1)) + 1)) + 1)) + 1), (rd_T58 y188 x5_1).f5, (rd_T58 y188 x5_1).f6, (rd_T58 y188 x5_1).f7, (rd_T58 y188 x5_1).f8, (rd_T58 y188 x5_1).f9, (rd_T58 y188 x5_1).f10, (⟨(rd_T58 y188 x5_1).f11.f0, (rd_T58 y188 x5_1).f11.f1, (rd_T58 y188 x5_1).f11.f2, (rd_T58 y188 x5_1).f11.f3⟩ : S54), (rd_T58 y188 x5_1).f12, (rd_T58 y188 x5_1).f13, (rd_T58 y188 x5_1).f14, (⟨(rd_T58 y188 x5_1).f15.f0, (rd_T58 y188 x5_1).f15.f1⟩ : S56)⟩ : S58) ) (fun _ hk => hk); have hx34_4 := hcc34 4 _ rfl; (try simp only [show (k58).sz = 20 from rfl, Nat.mul_one, Nat.add_zero] at hx34_4); have hf34_4 := hfr34 4; (try simp only [show (k58).sz = 20 from rfl, Nat.mul_one, Nat.add_zero] at hf34_4); clear hcl34 hcc34 hfr34 hM34) | ((with_reducible refine gate_store (t := 2) (p := 44) rfl ?_); refine store_event (t := 2) (p := 44) (v := ?vo_w35) (w1 := (w33.setCell ⟨go5, (x5_1 : Int).toNat * 20 + 4, none⟩ (.int .i64 (wrap64 ((wrap64 ((wrap64 ((wrap64 (x1_1 + 1)) + 1)) + 1)) + 1))))) ?hg ?ho ?hn ?hr ?_; (case ho => rfl); (case hg => rfl); (case hn => rfl); (case hr => first | (go_simp; done) | (go_simp; rfl)); intro w35 hw; have hg : w33.grownBy w35 (some go5) := (by rw [hw]; exact HP34.2); have hp_ : Kd.R k58 58 w35 w0.heap.size (fun k_ => (P0_ k_ ∨ w.heap.size ≤ k_)) (.slice (some ⟨go5, 0, none⟩) x0_1.length a2) y189 := (by rw [hw, a8.out]; exact HP34.1); clear HP34; have n0_ := Aside0.mk (hp_); have n1_ := Aside0.mk ((by rw [hw]; exact lS1_ (HB.out) a3.out : Below w0.heap.size w0 w35)); have n2_ := Aside0.mk (Kept.of_grown (S := (fun k_ => P0_ k_)) hg (by repeat (first | (with_reducible first | exact HK.out | apply Kept.alloc | apply Kept.drewN | apply Kept.drew) | exact HK.out)) (fun k_ e_ => (a0.out.1 k_ e_))); clear a0 HB HK; have a0 := n0_; have HB := n1_; have HK := n2_; clear n0_ n1_ n2_ hg hw hp_; have p10 : 0 ≤ (x5_1 : Int) := of_decide_eq_true (by first | (with_reducible assumption) | assumption); have q10 : (x5_1 : Int) < ((x0_1.length : Int) : Int) := of_decide_eq_true (by first | (with_reducible assumption) | assumption); replace p10 := eq_true p10; replace q10 := eq_true q10; have HX36 := Aside0.mk (show Kd.R k58 58 w35 w0.heap.size (fun k_ => (P0_ k_ ∨ w.heap.size ≤ k_)) (.slice (some ⟨go5, 0, none⟩) x0_1.length a2) y189 from a0.out); obtain ⟨ce36, hcl36, hM36, hcc36, hfr36⟩ := Kd.R_elem HX36.out z58 (x5_1 : Int) (of_decide_eq_true (by first | (with_reducible assumption) | assumption)) (by have h_ : (x5_1 : Int) < ((x0_1.length : Int) : Int) := of_decide_eq_true (by first | (with_reducible assumption) | assumption); first | exact h_ | (have e_ := (Kd.R_reads' a0.out).1; omega) | simpa using h_); obtain rfl := k58_openM hM36; have HP36 := Kd.R_seg HX36.out (x5_1 : Int) (of_decide_eq_true (by first | (with_reducible assumption) | assumption)) (by have h_ : (x5_1 : Int) < ((x0_1.length : Int) : Int) := of_decide_eq_true (by first | (with_reducible assumption) | assumption); first | exact h_ | (have e_ := (Kd.R_reads' a0.out).1; omega) | simpa using h_) (seg := [.int .i64 (wrap64 ((wrap64 ((wrap64 ((wrap64 ((wrap64 (x1_1 + 1)) + 1)) + 1)) + 1)) + 1))]) (j := 5) hcl36 hcc36 (show 6 ≤ 20 from by decide) (k58_mkM _ _ _ (⟨(rd_T58 y189 x5_1).f0, (rd_T58 y189 x5_1).f1, (rd_T58 y189 x5_1).f2, (rd_T58 y189 x5_1).f3, (rd_T58 y189 x5_1).f4, wrap64 ((wrap64 ((wrap64 ((wrap64 ((wrap64 (x1_1 + 1)) + 1)) + 1)) + 1)) + 1), (rd_T58 y189 x5_1).f6, (rd_T58 y189 x5_1).f7, (rd_T58 y189 x5_1).f8, (rd_T58 y189 x5_1).f9, (rd_T58 y189 x5_1).f10, (⟨(rd_T58 y189 x5_1).f11.f0, (rd_T58 y189 x5_1).f11.f1, (rd_T58 y189 x5_1).f11.f2, (rd_T58 y189 x5_1).f11.f3⟩ : S54), (rd_T58 y189 x5_1).f12, (rd_T58 y189 x5_1).f13, (rd_T58 y189 x5_1).f14, (⟨(rd_T58 y189 x5_1).f15.f0, (rd_T58 y189 x5_1).f15.f1⟩ : S56)⟩ : S58) ) (fun _ hk => hk); have hx36_5 := hcc36 5 _ rfl; (try simp only [show (k58).sz = 20 from rfl, Nat.mul_one, Nat.add_zero] at hx36_5); have hf36_5 := hfr36 5; (try simp only [show (k58).sz = 20 from rfl, Nat.mul_one, Nat.add_zero] at hf36_5); clear hcl36 hcc36 hfr36 hM36) | ((with_reducible refine gate_store (t := 2) (p := 51) rfl ?_); refine store_event (t := 2) (p := 51) (v := ?vo_w37) (w1 := (w35.setCell ⟨go5, (x5_1 : Int).toNat * 20 + 5, none⟩ (.int .i64 (wrap64 ((wrap64 ((wrap64 ((wrap64 ((wrap64 (x1_1 + 1)) + 1)) + 1)) + 1)) + 1))))) ?hg ?ho ?hn ?hr ?_; (case ho => rfl); (case hg => rfl); (case hn => rfl); (case hr => first | (go_simp; done) | (go_simp; rfl)); intro w37 hw; have hg : w35.grownBy w37 (some go5) := (by rw [hw]; exact HP36.2); have hp_ : Kd.R k58 58 w37 w0.heap.size (fun k_ => (P0_ k_ ∨ w.heap.size ≤ k_)) (.slice (some ⟨go5, 0, none⟩) x0_1.length a2) y190 := (by rw [hw, a9.out]; exact HP36.1); clear HP36; have n0_ := Aside0.mk (hp_); have n1_ := Aside0.mk ((by rw [hw]; exact lS1_ (HB.out) a3.out : Below w0.heap.size w0 w37)); have n2_ := Aside0.mk (Kept.of_grown (S := (fun k_ => P0_ k_)) hg (by repeat (first | (with_reducible first | exact HK.out | apply Kept.alloc | apply Kept.drewN | apply Kept.drew) | exact HK.out)) (fun k_ e_ => (a0.out.1 k_ e_))); clear a0 HB HK; have a0 := n0_; have HB := n1_; have HK := n2_; clear n0_ n1_ n2_ hg hw hp_; have p11 : 0 ≤ (x5_1 : Int) := of_decide_eq_true (by first | (with_reducible assumption) | assumption); have q11 : (x5_1 : Int) < ((x0_1.length : Int) : Int) := of_decide_eq_true (by first | (with_reducible assumption) | assumption); replace p11 := eq_true p11; replace q11 := eq_true q11; have HX38 := Aside0.mk (show Kd.R k58 58 w37 w0.heap.size (fun k_ => (P0_ k_ ∨ w.heap.size ≤ k_)) (.slice (some ⟨go5, 0, none⟩) x0_1.length a2) y190 from a0.out); obtain ⟨ce38, hcl38, hM38, hcc38, hfr38⟩ := Kd.R_elem HX38.out z58 (x5_1 : Int) (of_decide_eq_true (by first | (with_reducible assumption) | assumption)) (by have h_ : (x5_1 : Int) < ((x0_1.length : Int) : Int) := of_decide_eq_true (by first | (with_reducible assumption) | assumption); first | exact h_ | (have e_ := (Kd.R_reads' a0.out).1; omega) | simpa using h_); obtain rfl := k58_openM hM38; have HP38 := Kd.R_seg HX38.out (x5_1 : Int) (of_decide_eq_true (by first | (with_reducible assumption) | assumption)) (by have h_ : (x5_1 : Int) < ((x0_1.length : Int) : Int) := of_decide_eq_true (by first | (with_reducible assumption) | assumption); first | exact h_ | (have e_ := (Kd.R_reads' a0.out).1; omega) | simpa using h_) (seg := [.int .i64 (wrap64 ((wrap64 ((wrap64 ((wrap64 ((wrap64 ((wrap64 (x1_1 + 1)) + 1)) + 1)) + 1)) + 1)) + 1))]) (j := 6) hcl38 hcc38 (show 7 ≤ 20 from by decide) (k58_mkM _ _ _ (⟨(rd_T58 y190 x5_1).f0, (rd_T58 y190 x5_1).f1, (rd_T58 y190 x5_1).f2, (rd_T58 y190 x5_1).f3, (rd_T58 y190 x5_1).f4, (rd_T58 y190 x5_1).f5, wrap64 ((wrap64 ((wrap64 ((wrap64 ((wrap64 ((wrap64 (x1_1 + 1)) + 1)) + 1)) + 1)) + 1)) + 1), (rd_T58 y190 x5_1).f7, (rd_T58 y190 x5_1).f8, (rd_T58 y190 x5_1).f9, (rd_T58 y190 x5_1).f10, (⟨(rd_T58 y190 x5_1).f11.f0, (rd_T58 y190 x5_1).f11.f1, (rd_T58 y190 x5_1).f11.f2, (rd_T58 y190 x5_1).f11.f3⟩ : S54), (rd_T58 y190 x5_1).f12, (rd_T58 y190 x5_1).f13, (rd_T58 y190 x5_1).f14, (⟨(rd_T58 y190 x5_1).f15.f0, (rd_T58 y190 x5_1).f15.f1⟩ : S56)⟩ : S58) ) (fun _ hk => hk); have hx38_6 := hcc38 6 _ rfl; (try simp only [show (k58).sz = 20 from rfl, Nat.mul_one, Nat.add_zero] at hx38_6); have hf38_6 := hfr38 6; (try simp only [show (k58).sz = 20 from rfl, Nat.mul_one, Nat.add_zero] at hf38_6); clear hcl38 hcc38 hfr38 hM38) | ((with_reducible refine gate_store (t := 2) (p := 58) rfl ?_); refine store_event (t := 2) (p := 58) (v := ?vo_w39) (w1 := (w37.setCell ⟨go5, (x5_1 : Int).toNat * 20 + 6, none⟩ (.int .i64 (wrap64 ((wrap64 ((wrap64 ((wrap64 ((wrap64 ((wrap64 (x1_1 + 1)) + 1)) + 1)) + 1)) + 1)) + 1))))) ?hg ?ho ?hn ?hr ?_; (case ho => rfl); (case hg => rfl); (case hn => rfl); (case hr => first | (go_simp; done) | (go_simp; rfl)); intro w39 hw; have hg : w37.grownBy w39 (some go5) := (by rw [hw]; exact HP38.2); have hp_ : Kd.R k58 58 w39 w0.heap.size (fun k_ => (P0_ k_ ∨ w.heap.size ≤ k_)) (.slice (some ⟨go5, 0, none⟩) x0_1.length a2) y191 := (by rw [hw, aa.out]; exact HP38.1); clear HP38; have n0_ := Aside0.mk (hp_); have n1_ := Aside0.mk ((by rw [hw]; exact lS1_ (HB.out) a3.out : Below w0.heap.size w0 w39)); have n2_ := Aside0.mk (Kept.of_grown (S := (fun k_ => P0_ k_)) hg (by repeat (first | (with_reducible first | exact HK.out | apply Kept.alloc | apply Kept.drewN | apply Kept.drew) | exact HK.out)) (fun k_ e_ => (a0.out.1 k_ e_))); clear a0 HB HK; have a0 := n0_; have HB := n1_; have HK := n2_; clear n0_ n1_ n2_ hg hw hp_; have p12 : 0 ≤ (x5_1 : Int) := of_decide_eq_true (by first | (with_reducible assumption) | assumption); have q12 : (x5_1 : Int) < ((x0_1.length : Int) : Int) := of_decide_eq_true (by first | (with_reducible assumption) | assumption); replace p12 := eq_true p12; replace q12 := eq_true q12; have HX40 := Aside0.mk (show Kd.R k58 58 w39 w0.heap.size (fun k_ => (P0_ k_ ∨ w.heap.size ≤ k_)) (.slice (some ⟨go5, 0, none⟩) x0_1.length a2) y191 from a0.out); obtain ⟨ce40, hcl40, hM40, hcc40, hfr40⟩ := Kd.R_elem HX40.out z58 (x5_1 : Int) (of_decide_eq_true (by first | (with_reducible assumption) | assumption)) (by have h_ : (x5_1 : Int) < ((x0_1.length : Int) : Int) := of_decide_eq_true (by first | (with_reducible assumption) | assumption); first | exact h_ | (have e_ := (Kd.R_reads' a0.out).1; omega) | simpa using h_); obtain rfl := k58_openM hM40; have HP40 := Kd.R_seg HX40.out (x5_1 : Int) (of_decide_eq_true (by first | (with_reducible assumption) | assumption)) (by have h_ : (x5_1 : Int) < ((x0_1.length : Int) : Int) := of_decide_eq_true (by first | (with_reducible assumption) | assumption); first | exact h_ | (have e_ := (Kd.R_reads' a0.out).1; omega) | simpa using h_) (seg := [.int .i64 (wrap64 ((wrap64 ((wrap64 ((wrap64 ((wrap64 ((wrap64 ((wrap64 (x1_1 + 1)) + 1)) + 1)) + 1)) + 1)) + 1)) + 1))]) (j := 7) hcl40 hcc40 (show 8 ≤ 20 from by decide) (k58_mkM _ _ _ (⟨(rd_T58 y191 x5_1).f0, (rd_T58 y191 x5_1).f1, (rd_T58 y191 x5_1).f2, (rd_T58 y191 x5_1).f3, (rd_T58 y191 x5_1).f4, (rd_T58 y191 x5_1).f5, (rd_T58 y191 x5_1).f6, wrap64 ((wrap64 ((wrap64 ((wrap64 ((wrap64 ((wrap64 ((wrap64 (x1_1 + 1)) + 1)) + 1)) + 1)) + 1)) + 1)) + 1), (rd_T58 y191 x5_1).f8, (rd_T58 y191 x5_1).f9, (rd_T58 y191 x5_1).f10, (⟨(rd_T58 y191 x5_1).f11.f0, (rd_T58 y191 x5_1).f11.f1, (rd_T58 y191 x5_1).f11.f2, (rd_T58 y191 x5_1).f11.f3⟩ : S54), (rd_T58 y191 x5_1).f12, (rd_T58 y191 x5_1).f13, (rd_T58 y191 x5_1).f14, (⟨(rd_T58 y191 x5_1).f15.f0, (rd_T58 y191 x5_1).f15.f1⟩ : S56)⟩ : S58) ) (fun _ hk => hk); have hx40_7 := hcc40 7 _ rfl; (try simp only [show (k58).sz = 20 from rfl, Nat.mul_one, Nat.add_zero] at hx40_7); have hf40_7 := hfr40 7; (try simp only [show (k58).sz = 20 from rfl, Nat.mul_one, Nat.add_zero] at hf40_7); clear hcl40 hcc40 hfr40 hM40) | ((with_reducible refine gate_store (t := 2) (p := 65) rfl ?_); refine store_event (t := 2) (p := 65) (v := ?vo_w41) (w1 := (w39.setCell ⟨go5, (x5_1 : Int).toNat * 20 + 7, none⟩ (.int .i64 (wrap64 ((wrap64 ((wrap64 ((wrap64 ((wrap64 ((wrap64 ((wrap64 (x1_1 + 1)) + 1)) + 1)) + 1)) + 1)) + 1)) + 1))))) ?hg ?ho ?hn ?hr ?_; (case ho => rfl); (case hg => rfl); (case hn => rfl); (case hr => first | (go_simp; done) | (go_simp; rfl)); intro w41 hw; have hg : w39.grownBy w41 (some go5) := (by rw [hw]; exact HP40.2); have hp_ : Kd.R k58 58 w41 w0.heap.size (fun k_ => (P0_ k_ ∨ w.heap.size ≤ k_)) (.slice (some ⟨go5, 0, none⟩) x0_1.length a2) y192 := (by rw [hw, ab.out]; exact HP40.1); clear HP40; have n0_ := Aside0.mk (hp_); have n1_ := Aside0.mk ((by rw [hw]; exact lS1_ (HB.out) a3.out : Below w0.heap.size w0 w41)); have n2_ := Aside0.mk (Kept.of_grown (S := (fun k_ => P0_ k_)) hg (by repeat (first | (with_reducible first | exact HK.out | apply Kept.alloc | apply Kept.drewN | apply Kept.drew) | exact HK.out)) (fun k_ e_ => (a0.out.1 k_ e_))); clear a0 HB HK; have a0 := n0_; have HB := n1_; have HK := n2_; clear n0_ n1_ n2_ hg hw hp_; have p13 : 0 ≤ (x5_1 : Int) := of_decide_eq_true (by first | (with_reducible assumption) | assumption); have q13 : (x5_1 : Int) < ((x0_1.length : Int) : Int) := of_decide_eq_true (by first | (with_reducible assumption) | assumption); replace p13 := eq_true p13; replace q13 := eq_true q13; have HX42 := Aside0.mk (show Kd.R k58 58 w41 w0.heap.size (fun k_ => (P0_ k_ ∨ w.heap.size ≤ k_)) (.slice (some ⟨go5, 0, none⟩) x0_1.length a2) y192 from a0.out); obtain ⟨ce42, hcl42, hM42, hcc42, hfr42⟩ := Kd.R_elem HX42.out z58 (x5_1 : Int) (of_decide_eq_true (by first | (with_reducible assumption) | assumption)) (by have h_ : (x5_1 : Int) < ((x0_1.length : Int) : Int) := of_decide_eq_true (by first | (with_reducible assumption) | assumption); first | exact h_ | (have e_ := (Kd.R_reads' a0.out).1; omega) | simpa using h_); obtain rfl := k58_openM hM42; have HP42 := Kd.R_seg HX42.out (x5_1 : Int) (of_decide_eq_true (by first | (with_reducible assumption) | assumption)) (by have h_ : (x5_1 : Int) < ((x0_1.length : Int) : Int) := of_decide_eq_true (by first | (with_reducible assumption) | assumption); first | exact h_ | (have e_ := (Kd.R_reads' a0.out).1; omega) | simpa using h_) (seg := [.int .i64 (wrap64 ((wrap64 ((wrap64 ((wrap64 ((wrap64 ((wrap64 ((wrap64 ((wrap64 (x1_1 + 1)) + 1)) + 1)) + 1)) + 1)) + 1)) + 1)) + 1))]) (j := 8) hcl42 hcc42 (show 9 ≤ 20 from by decide) (k58_mkM _ _ _ (⟨(rd_T58 y192 x5_1).f0, (rd_T58 y192 x5_1).f1, (rd_T58 y192 x5_1).f2, (rd_T58 y192 x5_1).f3, (rd_T58 y192 x5_1).f4, (rd_T58 y192 x5_1).f5, (rd_T58 y192 x5_1).f6, (rd_T58 y192 x5_1).f7, wrap64 ((wrap64 ((wrap64 ((wrap64 ((wrap64 ((wrap64 ((wrap64 ((wrap64 (x1_1 + 1)) + 1)) + 1)) + 1)) + 1)) + 1)) + 1)) + 1), (rd_T58 y192 x5_1).f9, (rd_T58 y192 x5_1).f10, (⟨(rd_T58 y192 x5_1).f11.f0, (rd_T58 y192 x5_1).f11.f1, (rd_T58 y192 x5_1).f11.f2, (rd_T58 y192 x5_1).f11.f3⟩ : S54), (rd_T58 y192 x5_1).f12, (rd_T58 y192 x5_1).f13, (rd_T58 y192 x5_1).f14, (⟨(rd_T58 y192 x5_1).f15.f0, (rd_T58 y192 x5_1).f15.f1⟩ : S56)⟩ : S58) ) (fun _ hk => hk); have hx42_8 := hcc42 8 _ rfl; (try simp only [show (k58).sz = 20 from rfl, Nat.mul_one, Nat.add_zero] at hx42_8); have hf42_8 := hfr42 8; (try simp only [show (k58).sz = 20 from rfl, Nat.mul_one, Nat.add_zero] at hf42_8); clear hcl42 hcc42 hfr42 hM42) | ((with_reducible refine gate_store (t := 2) (p := 72) rfl ?_); refine store_event (t := 2) (p := 72) (v := ?vo_w43) (w1 := (w41.setCell ⟨go5, (x5_1 : Int).toNat * 20 + 8, none⟩ (.int .i64 (wrap64 ((wrap64 ((wrap64 ((wrap64 ((wrap64 ((wrap64 ((wrap64 ((wrap64 (x1_1 + 1)) + 1)) + 1)) + 1)) + 1)) + 1)) + 1)) + 1))))) ?hg ?ho ?hn ?hr ?_; (case ho => rfl); (case hg => rfl); (case hn => rfl); (case hr => first | (go_simp; done) | (go_simp; rfl)); intro w43 hw; have hg : w41.grownBy w43 (some go5) := (by rw [hw]; exact HP42.2); have hp_ : Kd.R k58 58 w43 w0.heap.size (fun k_ => (P0_ k_ ∨ w.heap.size ≤ k_)) (.slice (some ⟨go5, 0, none⟩) x0_1.length a2) y193 := (by rw [hw, ac.out]; exact HP42.1); clear HP42; have n0_ := Aside0.mk (hp_); have n1_ := Aside0.mk ((by rw [hw]; exact lS1_ (HB.out) a3.out : Below w0.heap.size w0 w43)); have n2_ := Aside0.mk (Kept.of_grown (S := (fun k_ => P0_ k_)) hg (by repeat (first | (with_reducible first | exact HK.out | apply Kept.alloc | apply Kept.drewN | apply Kept.drew) | exact HK.out)) (fun k_ e_ => (a0.out.1 k_ e_))); clear a0 HB HK; have a0 := n0_; have HB := n1_; have HK := n2_; clear n0_ n1_ n2_ hg hw hp_; have p14 : 0 ≤ (x5_1 : Int) := of_decide_eq_true (by first | (with_reducible assumption) | assumption); have q14 : (x5_1 : Int) < ((x0_1.length : Int) : Int) := of_decide_eq_true (by first | (with_reducible assumption) | assumption); replace p14 := eq_true p14; replace q14 := eq_true q14; have HX44 := Aside0.mk (show Kd.R k58 58 w43 w0.heap.size (fun k_ => (P0_ k_ ∨ w.heap.size ≤ k_)) (.slice (some ⟨go5, 0, none⟩) x0_1.length a2) y193 from a0.out); obtain ⟨ce44, hcl44, hM44, hcc44, hfr44⟩ := Kd.R_elem HX44.out z58 (x5_1 : Int) (of_decide_eq_true (by first | (with_reducible assumption) | assumption)) (by have h_ : (x5_1 : Int) < ((x0_1.length : Int) : Int) := of_decide_eq_true (by first | (with_reducible assumption) | assumption); first | exact h_ | (have e_ := (Kd.R_reads' a0.out).1; omega) | simpa using h_); obtain rfl := k58_openM hM44; have HP44 := Kd.R_seg HX44.out (x5_1 : Int) (of_decide_eq_true (by first | (with_reducible assumption) | assumption)) (by have h_ : (x5_1 : Int) < ((x0_1.length : Int) : Int) := of_decide_eq_true (by first | (with_reducible assumption) | assumption); first | exact h_ | (have e_ := (Kd.R_reads' a0.out).1; omega) | simpa using h_) (seg := [.int .i64 (wrap64 ((wrap64 ((wrap64 ((wrap64 ((wrap64 ((wrap64 ((wrap64 ((wrap64 ((wrap64 (x1_1 + 1)) + 1)) + 1)) + 1)) + 1)) + 1)) + 1)) + 1)) + 1))]) (j := 9) hcl44 hcc44 (show 10 ≤ 20 from by decide) (k58_mkM _ _ _ (⟨(rd_T58 y193 x5_1).f0, (rd_T58 y193 x5_1).f1, (rd_T58 y193 x5_1).f2, (rd_T58 y193 x5_1).f3, (rd_T58 y193 x5_1).f4, (rd_T58 y193 x5_1).f5, (rd_T58 y193 x5_1).f6, (rd_T58 y193 x5_1).f7, (rd_T58 y193 x5_1).f8, wrap64 ((wrap64 ((wrap64 ((wrap64 ((wrap64 ((wrap64 ((wrap64 ((wrap64 ((wrap64 (x1_1 + 1)) + 1)) + 1)) + 1)) + 1)) + 1)) + 1)) + 1)) + 1), (rd_T58 y193 x5_1).f10, (⟨(rd_T58 y193 x5_1).f11.f0, (rd_T58 y193 x5_1).f11.f1, (rd_T58 y193 x5_1).f11.f2, (rd_T58 y193 x5_1).f11.f3⟩ : S54), (rd_T58 y193 x5_1).f12, (rd_T58 y193 x5_1).f13, (rd_T58 y193 x5_1).f14, (⟨(rd_T58 y193 x5_1).f15.f0, (rd_T58 y193 x5_1).f15.f1⟩ : S56)⟩ : S58) ) (fun _ hk => hk); have hx44_9 := hcc44 9 _ rfl; (try simp only [show (k58).sz = 20 from rfl, Nat.mul_one, Nat.add_zero] at hx44_9); have hf44_9 := hfr44 9; (try simp only [show (k58).sz = 20 from rfl, Nat.mul_one, Nat.add_zero] at hf44_9); clear hcl44 hcc44 hfr44 hM44) | ((with_reducible refine gate_store (t := 2) (p := 79) rfl ?_); refine store_event (t := 2) (p := 79) (v := ?vo_w45) (w1 := (w43.setCell ⟨go5, (x5_1 : Int).toNat * 20 + 9, none⟩ (.int .i64 (wrap64 ((wrap64 ((wrap64 ((wrap64 ((wrap64 ((wrap64 ((wrap64 ((wrap64 ((wrap64 (x1_1 + 1)) + 1)) + 1)) + 1)) + 1)) + 1)) + 1)) + 1)) + 1))))) ?hg ?ho ?hn ?hr ?_; (case ho => rfl); (case hg => rfl); (case hn => rfl); (case hr => first | (go_simp; done) | (go_simp; rfl)); intro w45 hw; have hg : w43.grownBy w45 (some go5) := (by rw [hw]; exact HP44.2); have hp_ : Kd.R k58 58 w45 w0.heap.size (fun k_ => (P0_ k_ ∨ w.heap.size ≤ k_)) (.slice (some ⟨go5, 0, none⟩) x0_1.length a2) y194 := (by rw [hw, ad.out]; exact HP44.1); clear HP44; have n0_ := Aside0.mk (hp_); have n1_ := Aside0.mk ((by rw [hw]; exact lS1_ (HB.out) a3.out : Below w0.heap.size w0 w45)); have n2_ := Aside0.mk (Kept.of_grown (S := (fun k_ => P0_ k_)) hg (by repeat (first | (with_reducible first | exact HK.out | apply Kept.alloc | apply Kept.drewN | apply Kept.drew) | exact HK.out)) (fun k_ e_ => (a0.out.1 k_ e_))); clear a0 HB HK; have a0 := n0_; have HB := n1_; have HK := n2_; clear n0_ n1_ n2_ hg hw hp_; have p15 : 0 ≤ (x5_1 : Int) := of_decide_eq_true (by first | (with_reducible assumption) | assumption); have q15 : (x5_1 : Int) < ((x0_1.length : Int) : Int) := of_decide_eq_true (by first | (with_reducible assumption) | assumption); replace p15 := eq_true p15; replace q15 := eq_true q15; have HX46 := Aside0.mk (show Kd.R k58 58 w45 w0.heap.size (fun k_ => (P0_ k_ ∨ w.heap.size ≤ k_)) (.slice (some ⟨go5, 0, none⟩) x0_1.length a2) y194 from a0.out); obtain ⟨ce46, hcl46, hM46, hcc46, hfr46⟩ := Kd.R_elem HX46.out z58 (x5_1 : Int) (of_decide_eq_true (by first | (with_reducible assumption) | assumption)) (by have h_ : (x5_1 : Int) < ((x0_1.length : Int) : Int) := of_decide_eq_true (by first | (with_reducible assumption) | assumption); first | exact h_ | (have e_ := (Kd.R_reads' a0.out).1; omega) | simpa using h_); obtain rfl := k58_openM hM46; have HP46 := Kd.R_seg HX46.out (x5_1 : Int) (of_decide_eq_true (by first | (with_reducible assumption) | assumption)) (by have h_ : (x5_1 : Int) < ((x0_1.length : Int) : Int) := of_decide_eq_true (by first | (with_reducible assumption) | assumption); first | exact h_ | (have e_ := (Kd.R_reads' a0.out).1; omega) | simpa using h_) (seg := [.int .i64 (wrap64 ((wrap64 ((wrap64 ((wrap64 ((wrap64 ((wrap64 ((wrap64 ((wrap64 ((wrap64 ((wrap64 (x1_1 + 1)) + 1)) + 1)) + 1)) + 1)) + 1)) + 1)) + 1)) + 1)) + 1))]) (j := 10) hcl46 hcc46 (show 11 ≤ 20 from by decide) (k58_mkM _ _ _ (⟨(rd_T58 y194 x5_1).f0, (rd_T58 y194 x5_1).f1, (rd_T58 y194 x5_1).f2, (rd_T58 y194 x5_1).f3, (rd_T58 y194 x5_1).f4, (rd_T58 y194 x5_1).f5, (rd_T58 y194 x5_1).f6, (rd_T58 y194 x5_1).f7, (rd_T58 y194 x5_1).f8, (rd_T58 y194 x5_1).f9, wrap64 ((wrap64 ((wrap64 ((wrap64 ((wrap64 ((wrap64 ((wrap64 ((wrap64 ((wrap64 ((wrap64 (x1_1 + 1)) + 1)) + 1)) + 1)) + 1)) + 1)) + 1)) + 1)) + 1)) + 1), (⟨(rd_T58 y194 x5_1).f11.f0, (rd_T58 y194 x5_1).f11.f1, (rd_T58 y194 x5_1).f11.f2, (rd_T58 y194 x5_1).f11.f3⟩ : S54), (rd_T58 y194 x5_1).f12, (rd_T58 y194 x5_1).f13, (rd_T58 y194 x5_1).f14, (⟨(rd_T58 y194 x5_1).f15.f0, (rd_T58 y194 x5_1).f15.f1⟩ : S56)⟩ : S58) ) (fun _ hk => hk); have hx46_10 := hcc46 10 _ rfl; (try simp only [show (k58).sz = 20 from rfl, Nat.mul_one, Nat.add_zero] at hx46_10); have hf46_10 := hfr46 10; (try simp only [show (k58).sz = 20 from rfl, Nat.mul_one, Nat.add_zero] at hf46_10); clear hcl46 hcc46 hfr46 hM46) | ((with_reducible refine gate_store (t := 2) (p := 86) rfl ?_); refine store_event (t := 2) (p := 86) (v := ?vo_w47) (w1 := (w45.setCell ⟨go5, (x5_1 : Int).toNat * 20 + 10, none⟩ (.int .i64 (wrap64 ((wrap64 ((wrap64 ((wrap64 ((wrap64 ((wrap64 ((wrap64 ((wrap64 ((wrap64 ((wrap64 (x1_1 + 1)) + 1)) + 1)) + 1)) + 1)) + 1)) + 1)) + 1)) + 1)) + 1))))) ?hg ?ho ?hn ?hr ?_; (case ho => rfl); (case hg => rfl); (case hn => rfl); (case hr => first | (go_simp; done) | (go_simp; rfl)); intro w47 hw; have hg : w45.grownBy w47 (some go5) := (by rw [hw]; exact HP46.2); have hp_ : Kd.R k58 58 w47 w0.heap.size (fun k_ => (P0_ k_ ∨ w.heap.size ≤ k_)) (.slice (some ⟨go5, 0, none⟩) x0_1.length a2) y195 := (by rw [hw, ae.out]; exact HP46.1); clear HP46; have n0_ := Aside0.mk (hp_); have n1_ := Aside0.mk ((by rw [hw]; exact lS1_ (HB.out) a3.out : Below w0.heap.size w0 w47)); have n2_ := Aside0.mk (Kept.of_grown (S := (fun k_ => P0_ k_)) hg (by repeat (first | (with_reducible first | exact HK.out | apply Kept.alloc | apply Kept.drewN | apply Kept.drew) | exact HK.out)) (fun k_ e_ => (a0.out.1 k_ e_))); clear a0 HB HK; have a0 := n0_; have HB := n1_; have HK := n2_; clear n0_ n1_ n2_ hg hw hp_; have p16 : 0 ≤ (x5_1 : Int) := of_decide_eq_true (by first | (with_reducible assumption) | assumption); have q16 : (x5_1 : Int) < ((x0_1.length : Int) : Int) := of_decide_eq_true (by first | (with_reducible assumption) | assumption); replace p16 := eq_true p16; replace q16 := eq_true q16; have HX48 := Aside0.mk (show Kd.R k58 58 w47 w0.heap.size (fun k_ => (P0_ k_ ∨ w.heap.size ≤ k_)) (.slice (some ⟨go5, 0, none⟩) x0_1.length a2) y195 from a0.out); obtain ⟨ce48, hcl48, hM48, hcc48, hfr48⟩ := Kd.R_elem HX48.out z58 (x5_1 : Int) (of_decide_eq_true (by first | (with_reducible assumption) | assumption)) (by have h_ : (x5_1 : Int) < ((x0_1.length : Int) : Int) := of_decide_eq_true (by first | (with_reducible assumption) | assumption); first | exact h_ | (have e_ := (Kd.R_reads' a0.out).1; omega) | simpa using h_); obtain rfl := k58_openM hM48; have HP48 := Kd.R_seg HX48.out (x5_1 : Int) (of_decide_eq_true (by first | (with_reducible assumption) | assumption)) (by have h_ : (x5_1 : Int) < ((x0_1.length : Int) : Int) := of_decide_eq_true (by first | (with_reducible assumption) | assumption); first | exact h_ | (have e_ := (Kd.R_reads' a0.out).1; omega) | simpa using h_) (seg := [.int .i64 (wrap64 ((wrap64 ((wrap64 ((wrap64 ((wrap64 ((wrap64 ((wrap64 ((wrap64 ((wrap64 ((wrap64 ((wrap64 (x1_1 + 1)) + 1)) + 1)) + 1)) + 1)) + 1)) + 1)) + 1)) + 1)) + 1)) + 1))]) (j := 11) hcl48 hcc48 (show 12 ≤ 20 from by decide) (k58_mkM _ _ _ (⟨(rd_T58 y195 x5_1).f0, (rd_T58 y195 x5_1).f1, (rd_T58 y195 x5_1).f2, (rd_T58 y195 x5_1).f3, (rd_T58 y195 x5_1).f4, (rd_T58 y195 x5_1).f5, (rd_T58 y195 x5_1).f6, (rd_T58 y195 x5_1).f7, (rd_T58 y195 x5_1).f8, (rd_T58 y195 x5_1).f9, (rd_T58 y195 x5_1).f10, (⟨wrap64 ((wrap64 ((wrap64 ((wrap64 ((wrap64 ((wrap64 ((wrap64 ((wrap64 ((wrap64 ((wrap64 ((wrap64 (x1_1 + 1)) + 1)) + 1)) + 1)) + 1)) + 1)) + 1)) + 1)) + 1)) + 1)) + 1), (rd_T58 y195 x5_1).f11.f1, (rd_T58 y195 x5_1).f11.f2, (rd_T58 y195 x5_1).f11.f3⟩ : S54), (rd_T58 y195 x5_1).f12, (rd_T58 y195 x5_1).f13, (rd_T58 y195 x5_1).f14, (⟨(rd_T58 y195 x5_1).f15.f0, (rd_T58 y195 x5_1).f15.f1⟩ : S56)⟩ : S58) ) (fun _ hk => hk); have hx48_11 := hcc48 11 _ rfl; (try simp only [show (k58).sz = 20 from rfl, Nat.mul_one, Nat.add_zero] at hx48_11); have hf48_11 := hfr48 11; (try simp only [show (k58).sz = 20 from rfl, Nat.mul_one, Nat.add_zero] at hf48_11); clear hcl48 hcc48 hfr48 hM48) | ((with_reducible refine gate_store (t := 2) (p := 94) rfl ?_); refine store_event (t := 2) (p := 94) (v := ?vo_w49) (w1 := (w47.setCell ⟨go5, (x5_1 : Int).toNat * 20 + 11, none⟩ (.int .i64 (wrap64 ((wrap64 ((wrap64 ((wrap64 ((wrap64 ((wrap64 ((wrap64 ((wrap64 ((wrap64 ((wrap64 ((wrap64 (x1_1 + 1)) + 1)) + 1)) + 1)) + 1)) + 1)) + 1)) + 1)) + 1)) + 1)) + 1))))) ?hg ?ho ?hn ?hr ?_; (case ho => rfl); (case hg => rfl); (case hn => rfl); (case hr => first | (go_simp; done) | (go_simp; rfl)); intro w49 hw; have hg : w47.grownBy w49 (some go5) := (by rw [hw]; exact HP48.2); have hp_ : Kd.R k58 58 w49 w0.heap.size (fun k_ => (P0_ k_ ∨ w.heap.size ≤ k_)) (.slice (some ⟨go5, 0, none⟩) x0_1.length a2) y196 := (by rw [hw, af.out]; exact HP48.1); clear HP48; have n0_ := Aside0.mk (hp_); have n1_ := Aside0.mk ((by rw [hw]; exact lS1_ (HB.out) a3.out : Below w0.heap.size w0 w49)); have n2_ := Aside0.mk (Kept.of_grown (S := (fun k_ => P0_ k_)) hg (by repeat (first | (with_reducible first | exact HK.out | apply Kept.alloc | apply Kept.drewN | apply Kept.drew) | exact HK.out)) (fun k_ e_ => (a0.out.1 k_ e_))); clear a0 HB HK; have a0 := n0_; have HB := n1_; have HK := n2_; clear n0_ n1_ n2_ hg hw hp_; have p17 : 0 ≤ (x5_1 : Int) := of_decide_eq_true (by first | (with_reducible assumption) | assumption); have q17 : (x5_1 : Int) < ((x0_1.length : Int) : Int) := of_decide_eq_true (by first | (with_reducible assumption) | assumption); replace p17 := eq_true p17; replace q17 := eq_true q17; have HX50 := Aside0.mk (show Kd.R k58 58 w49 w0.heap.size (fun k_ => (P0_ k_ ∨ w.heap.size ≤ k_)) (.slice (some ⟨go5, 0, none⟩) x0_1.length a2) y196 from a0.out); obtain ⟨ce50, hcl50, hM50, hcc50, hfr50⟩ := Kd.R_elem HX50.out z58 (x5_1 : Int) (of_decide_eq_true (by first | (with_reducible assumption) | assumption)) (by have h_ : (x5_1 : Int) < ((x0_1.length : Int) : Int) := of_decide_eq_true (by first | (with_reducible assumption) | assumption); first | exact h_ | (have e_ := (Kd.R_reads' a0.out).1; omega) | simpa using h_); obtain rfl := k58_openM hM50; have HP50 := Kd.R_seg HX50.out (x5_1 : Int) (of_decide_eq_true (by first | (with_reducible assumption) | assumption)) (by have h_ : (x5_1 : Int) < ((x0_1.length : Int) : Int) := of_decide_eq_true (by first | (with_reducible assumption) | assumption); first | exact h_ | (have e_ := (Kd.R_reads' a0.out).1; omega) | simpa using h_) (seg := [.int .i64 (wrap64 ((wrap64 ((wrap64 ((wrap64 ((wrap64 ((wrap64 ((wrap64 ((wrap64 ((wrap64 ((wrap64 ((wrap64 ((wrap64 (x1_1 + 1)) + 1)) + 1)) + 1)) + 1)) + 1)) + 1)) + 1)) + 1)) + 1)) + 1)) + 1))]) (j := 12) hcl50 hcc50 (show 13 ≤ 20 from by decide) (k58_mkM _ _ _ (⟨(rd_T58 y196 x5_1).f0, (rd_T58 y196 x5_1).f1, (rd_T58 y196 x5_1).f2, (rd_T58 y196 x5_1).f3, (rd_T58 y196 x5_1).f4, (rd_T58 y196 x5_1).f5, (rd_T58 y196 x5_1).f6, (rd_T58 y196 x5_1).f7, (rd_T58 y196 x5_1).f8, (rd_T58 y196 x5_1).f9, (rd_T58 y196 x5_1).f10, (⟨(rd_T58 y196 x5_1).f11.f0, wrap64 ((wrap64 ((wrap64 ((wrap64 ((wrap64 ((wrap64 ((wrap64 ((wrap64 ((wrap64 ((wrap64 ((wrap64 ((wrap64 (x1_1 + 1)) + 1)) + 1)) + 1)) + 1)) + 1)) + 1)) + 1)) + 1)) + 1)) + 1)) + 1), (rd_T58 y196 x5_1).f11.f2, (rd_T58 y196 x5_1).f11.f3⟩ : S54), (rd_T58 y196 x5_1).f12, (rd_T58 y196 x5_1).f13, (rd_T58 y196 x5_1).f14, (⟨(rd_T58 y196 x5_1).f15.f0, (rd_T58 y196 x5_1).f15.f1⟩ : S56)⟩ : S58) ) (fun _ hk => hk); have hx50_12 := hcc50 12 _ rfl; (try simp only [show (k58).sz = 20 from rfl, Nat.mul_one, Nat.add_zero] at hx50_12); have hf50_12 := hfr50 12; (try simp only [show (k58).sz = 20 from rfl, Nat.mul_one, Nat.add_zero] at hf50_12); clear hcl50 hcc50 hfr50 hM50) | ((with_reducible refine gate_store (t := 2) (p := 102) rfl ?_); refine store_event (t := 2) (p := 102) (v := ?vo_w51) (w1 := (w49.setCell ⟨go5, (x5_1 : Int).toNat * 20 + 12, none⟩ (.int .i64 (wrap64 ((wrap64 ((wrap64 ((wrap64 ((wrap64 ((wrap64 ((wrap64 ((wrap64 ((wrap64 ((wrap64 ((wrap64 ((wrap64 (x1_1 + 1)) + 1)) + 1)) + 1)) + 1)) + 1)) + 1)) + 1)) + 1)) + 1)) + 1)) + 1))))) ?hg ?ho ?hn ?hr ?_; (case ho => rfl); (case hg => rfl); (case hn => rfl); (case hr => first | (go_simp; done) | (go_simp; rfl)); intro w51 hw; have hg : w49.grownBy w51 (some go5) := (by rw [hw]; exact HP50.2); have hp_ : Kd.R k58 58 w51 w0.heap.size (fun k_ => (P0_ k_ ∨ w.heap.size ≤ k_)) (.slice (some ⟨go5, 0, none⟩) x0_1.length a2) y197 := (by rw [hw, ag.out]; exact HP50.1); clear HP50; have n0_ := Aside0.mk (hp_); have n1_ := Aside0.mk ((by rw [hw]; exact lS1_ (HB.out) a3.out : Below w0.heap.size w0 w51)); have n2_ := Aside0.mk (Kept.of_grown (S := (fun k_ => P0_ k_)) hg (by repeat (first | (with_reducible first | exact HK.out | apply Kept.alloc | apply Kept.drewN | apply Kept.drew) | exact HK.out)) (fun k_ e_ => (a0.out.1 k_ e_))); clear a0 HB HK; have a0 := n0_; have HB := n1_; have HK := n2_; clear n0_ n1_ n2_ hg hw hp_; have p18 : 0 ≤ (x5_1 : Int) := of_decide_eq_true (by first | (with_reducible assumption) | assumption); have q18 : (x5_1 : Int) < ((x0_1.length : Int) : Int) := of_decide_eq_true (by first | (with_reducible assumption) | assumption); replace p18 := eq_true p18; replace q18 := eq_true q18; have HX52 := Aside0.mk (show Kd.R k58 58 w51 w0.heap.size (fun k_ => (P0_ k_ ∨ w.heap.size ≤ k_)) (.slice (some ⟨go5, 0, none⟩) x0_1.length a2) y197 from a0.out); obtain ⟨ce52, hcl52, hM52, hcc52, hfr52⟩ := Kd.R_elem HX52.out z58 (x5_1 : Int) (of_decide_eq_true (by first | (with_reducible assumption) | assumption)) (by have h_ : (x5_1 : Int) < ((x0_1.length : Int) : Int) := of_decide_eq_true (by first | (with_reducible assumption) | assumption); first | exact h_ | (have e_ := (Kd.R_reads' a0.out).1; omega) | simpa using h_); obtain rfl := k58_openM hM52; have HP52 := Kd.R_seg HX52.out (x5_1 : Int) (of_decide_eq_true (by first | (with_reducible assumption) | assumption)) (by have h_ : (x5_1 : Int) < ((x0_1.length : Int) : Int) := of_decide_eq_true (by first | (with_reducible assumption) | assumption); first | exact h_ | (have e_ := (Kd.R_reads' a0.out).1; omega) | simpa using h_) (seg := [.int .i64 (wrap64 ((wrap64 ((wrap64 ((wrap64 ((wrap64 ((wrap64 ((wrap64 ((wrap64 ((wrap64 ((wrap64 ((wrap64 ((wrap64 ((wrap64 (x1_1 + 1)) + 1)) + 1)) + 1)) + 1)) + 1)) + 1)) + 1)) + 1)) + 1)) + 1)) + 1)) + 1))]) (j := 13) hcl52 hcc52 (show 14 ≤ 20 from by decide) (k58_mkM _ _ _ (⟨(rd_T58 y197 x5_1).f0, (rd_T58 y197 x5_1).f1, (rd_T58 y197 x5_1).f2, (rd_T58 y197 x5_1).f3, (rd_T58 y197 x5_1).f4, (rd_T58 y197 x5_1).f5, (rd_T58 y197 x5_1).f6, (rd_T58 y197 x5_1).f7, (rd_T58 y197 x5_1).f8, (rd_T58 y197 x5_1).f9, (rd_T58 y197 x5_1).f10, (⟨(rd_T58 y197 x5_1).f11.f0, (rd_T58 y197 x5_1).f11.f1, wrap64 ((wrap64 ((wrap64 ((wrap64 ((wrap64 ((wrap64 ((wrap64 ((wrap64 ((wrap64 ((wrap64 ((wrap64 ((wrap64 ((wrap64 (x1_1 + 1)) + 1)) + 1)) + 1)) + 1)) + 1)) + 1)) + 1)) + 1)) + 1)) + 1)) + 1)) + 1), (rd_T58 y197 x5_1).f11.f3⟩ : S54), (rd_T58 y197 x5_1).f12, (rd_T58 y197 x5_1).f13, (rd_T58 y197 x5_1).f14, (⟨(rd_T58 y197 x5_1).f15.f0, (rd_T58 y197 x5_1).f15.f1⟩ : S56)⟩ : S58) ) (fun _ hk => hk); have hx52_13 := hcc52 13 _ rfl; (try simp only [show (k58).sz = 20 from rfl, Nat.mul_one, Nat.add_zero] at hx52_13); have hf52_13 := hfr52 13; (try simp only [show (k58).sz = 20 from rfl, Nat.mul_one, Nat.add_zero] at hf52_13); clear hcl52 hcc52 hfr52 hM52) | ((with_reducible refine gate_store (t := 2) (p := 110) rfl ?_); refine store_event (t := 2) (p := 110) (v := ?vo_w53) (w1 := (w51.setCell ⟨go5, (x5_1 : Int).toNat * 20 + 13, none⟩ (.int .i64 (wrap64 ((wrap64 ((wrap64 ((wrap64 ((wrap64 ((wrap64 ((wrap64 ((wrap64 ((wrap64 ((wrap64 ((wrap64 ((wrap64 ((wrap64 (x1_1 + 1)) + 1)) + 1)) + 1)) + 1)) + 1)) + 1)) + 1)) + 1)) + 1)) + 1)) + 1)) + 1))))) ?hg ?ho ?hn ?hr ?_; (case ho => rfl); (case hg => rfl); (case hn => rfl); (case hr => first | (go_simp; done) | (go_simp; rfl)); intro w53 hw; have hg : w51.grownBy w53 (some go5) := (by rw [hw]; exact HP52.2); have hp_ : Kd.R k58 58 w53 w0.heap.size (fun k_ => (P0_ k_ ∨ w.heap.size ≤ k_)) (.slice (some ⟨go5, 0, none⟩) x0_1.length a2) y198 := (by rw [hw, ah.out]; exact HP52.1); clear HP52; have n0_ := Aside0.mk (hp_); have n1_ := Aside0.mk ((by rw [hw]; exact lS1_ (HB.out) a3.out : Below w0.heap.size w0 w53)); have n2_ := Aside0.mk (Kept.of_grown (S := (fun k_ => P0_ k_)) hg (by repeat (first | (with_reducible first | exact HK.out | apply Kept.alloc | apply Kept.drewN | apply Kept.drew) | exact HK.out)) (fun k_ e_ => (a0.out.1 k_ e_))); clear a0 HB HK; have a0 := n0_; have HB := n1_; have HK := n2_; clear n0_ n1_ n2_ hg hw hp_; have p19 : 0 ≤ (x5_1 : Int) := of_decide_eq_true (by first | (with_reducible assumption) | assumption); have q19 : (x5_1 : Int) < ((x0_1.length : Int) : Int) := of_decide_eq_true (by first | (with_reducible assumption) | assumption); replace p19 := eq_true p19; replace q19 := eq_true q19; have HX54 := Aside0.mk (show Kd.R k58 58 w53 w0.heap.size (fun k_ => (P0_ k_ ∨ w.heap.size ≤ k_)) (.slice (some ⟨go5, 0, none⟩) x0_1.length a2) y198 from a0.out); obtain ⟨ce54, hcl54, hM54, hcc54, hfr54⟩ := Kd.R_elem HX54.out z58 (x5_1 : Int) (of_decide_eq_true (by first | (with_reducible assumption) | assumption)) (by have h_ : (x5_1 : Int) < ((x0_1.length : Int) : Int) := of_decide_eq_true (by first | (with_reducible assumption) | assumption); first | exact h_ | (have e_ := (Kd.R_reads' a0.out).1; omega) | simpa using h_); obtain rfl := k58_openM hM54; have HP54 := Kd.R_seg HX54.out (x5_1 : Int) (of_decide_eq_true (by first | (with_reducible assumption) | assumption)) (by have h_ : (x5_1 : Int) < ((x0_1.length : Int) : Int) := of_decide_eq_true (by first | (with_reducible assumption) | assumption); first | exact h_ | (have e_ := (Kd.R_reads' a0.out).1; omega) | simpa using h_) (seg := [.int .i64 (wrap64 ((wrap64 ((wrap64 ((wrap64 ((wrap64 ((wrap64 ((wrap64 ((wrap64 ((wrap64 ((wrap64 ((wrap64 ((wrap64 ((wrap64 ((wrap64 (x1_1 + 1)) + 1)) + 1)) + 1)) + 1)) + 1)) + 1)) + 1)) + 1)) + 1)) + 1)) + 1)) + 1)) + 1))]) (j := 14) hcl54 hcc54 (show 15 ≤ 20 from by decide) (k58_mkM _ _ _ (⟨(rd_T58 y198 x5_1).f0, (rd_T58 y198 x5_1).f1, (rd_T58 y198 x5_1).f2, (rd_T58 y198 x5_1).f3, (rd_T58 y198 x5_1).f4, (rd_T58 y198 x5_1).f5, (rd_T58 y198 x5_1).f6, (rd_T58 y198 x5_1).f7, (rd_T58 y198 x5_1).f8, (rd_T58 y198 x5_1).f9, (rd_T58 y198 x5_1).f10, (⟨(rd_T58 y198 x5_1).f11.f0, (rd_T58 y198 x5_1).f11.f1, (rd_T58 y198 x5_1).f11.f2, wrap64 ((wrap64 ((wrap64 ((wrap64 ((wrap64 ((wrap64 ((wrap64 ((wrap64 ((wrap64 ((wrap64 ((wrap64 ((wrap64 ((wrap64 ((wrap64 (x1_1 + 1)) + 1)) + 1)) + 1)) + 1)) + 1)) + 1)) + 1)) + 1)) + 1)) + 1)) + 1)) + 1)) + 1)⟩ : S54), (rd_T58 y198 x5_1).f12, (rd_T58 y198 x5_1).f13, (rd_T58 y198 x5_1).f14, (⟨(rd_T58 y198 x5_1).f15.f0, (rd_T58 y198 x5_1).f15.f1⟩ : S56)⟩ : S58) ) (fun _ hk => hk); have hx54_14 := hcc54 14 _ rfl; (try simp only [show (k58).sz = 20 from rfl, Nat.mul_one, Nat.add_zero] at hx54_14); have hf54_14 := hfr54 14; (try simp only [show (k58).sz = 20 from rfl, Nat.mul_one, Nat.add_zero] at hf54_14); clear hcl54 hcc54 hfr54 hM54) | ((with_reducible refine gate_store (t := 2) (p := 118) rfl ?_); refine store_event (t := 2) (p := 118) (v := ?vo_w55) (w1 := (w53.setCell ⟨go5, (x5_1 : Int).toNat * 20 + 14, none⟩ (.int .i64 (wrap64 ((wrap64 ((wrap64 ((wrap64 ((wrap64 ((wrap64 ((wrap64 ((wrap64 ((wrap64 ((wrap64 ((wrap64 ((wrap64 ((wrap64 ((wrap64 (x1_1 + 1)) + 1)) + 1)) + 1)) + 1)) + 1)) + 1)) + 1)) + 1)) + 1)) + 1)) + 1)) + 1)) + 1))))) ?hg ?ho ?hn ?hr ?_; (case ho => rfl); (case hg => rfl); (case hn => rfl); (case hr => first | (go_simp; done) | (go_simp; rfl)); intro w55 hw; have hg : w53.grownBy w55 (some go5) := (by rw [hw]; exact HP54.2); have hp_ : Kd.R k58 58 w55 w0.heap.size (fun k_ => (P0_ k_ ∨ w.heap.size ≤ k_)) (.slice (some ⟨go5, 0, none⟩) x0_1.length a2) y199 := (by rw [hw, ai.out]; exact HP54.1); clear HP54; have n0_ := Aside0.mk (hp_); have n1_ := Aside0.mk ((by rw [hw]; exact lS1_ (HB.out) a3.out : Below w0.heap.size w0 w55)); have n2_ := Aside0.mk (Kept.of_grown (S := (fun k_ => P0_ k_)) hg (by repeat (first | (with_reducible first | exact HK.out | apply Kept.alloc | apply Kept.drewN | apply Kept.drew) | exact HK.out)) (fun k_ e_ => (a0.out.1 k_ e_))); clear a0 HB HK; have a0 := n0_; have HB := n1_; have HK := n2_; clear n0_ n1_ n2_ hg hw hp_; have p20 : 0 ≤ (x5_1 : Int) := of_decide_eq_true (by first | (with_reducible assumption) | assumption); have q20 : (x5_1 : Int) < ((x0_1.length : Int) : Int) := of_decide_eq_true (by first | (with_reducible assumption) | assumption); replace p20 := eq_true p20; replace q20 := eq_true q20; have HX56 := Aside0.mk (show Kd.R k58 58 w55 w0.heap.size (fun k_ => (P0_ k_ ∨ w.heap.size ≤ k_)) (.slice (some ⟨go5, 0, none⟩) x0_1.length a2) y199 from a0.out); obtain ⟨ce56, hcl56, hM56, hcc56, hfr56⟩ := Kd.R_elem HX56.out z58 (x5_1 : Int) (of_decide_eq_true (by first | (with_reducible assumption) | assumption)) (by have h_ : (x5_1 : Int) < ((x0_1.length : Int) : Int) := of_decide_eq_true (by first | (with_reducible assumption) | assumption); first | exact h_ | (have e_ := (Kd.R_reads' a0.out).1; omega) | simpa using h_); obtain rfl := k58_openM hM56; have HP56 := Kd.R_seg HX56.out (x5_1 : Int) (of_decide_eq_true (by first | (with_reducible assumption) | assumption)) (by have h_ : (x5_1 : Int) < ((x0_1.length : Int) : Int) := of_decide_eq_true (by first | (with_reducible assumption) | assumption); first | exact h_ | (have e_ := (Kd.R_reads' a0.out).1; omega) | simpa using h_) (seg := [.int .i64 (wrap64 ((wrap64 ((wrap64 ((wrap64 ((wrap64 ((wrap64 ((wrap64 ((wrap64 ((wrap64 ((wrap64 ((wrap64 ((wrap64 ((wrap64 ((wrap64 ((wrap64 (x1_1 + 1)) + 1)) + 1)) + 1)) + 1)) + 1)) + 1)) + 1)) + 1)) + 1)) + 1)) + 1)) + 1)) + 1)) + 1))]) (j := 15) hcl56 hcc56 (show 16 ≤ 20 from by decide) (k58_mkM _ _ _ (⟨(rd_T58 y199 x5_1).f0, (rd_T58 y199 x5_1).f1, (rd_T58 y199 x5_1).f2, (rd_T58 y199 x5_1).f3, (rd_T58 y199 x5_1).f4, (rd_T58 y199 x5_1).f5, (rd_T58 y199 x5_1).f6, (rd_T58 y199 x5_1).f7, (rd_T58 y199 x5_1).f8, (rd_T58 y199 x5_1).f9, (rd_T58 y199 x5_1).f10, (⟨(rd_T58 y199 x5_1).f11.f0, (rd_T58 y199 x5_1).f11.f1, (rd_T58 y199 x5_1).f11.f2, (rd_T58 y199 x5_1).f11.f3⟩ : S54), wrap64 ((wrap64 ((wrap64 ((wrap64 ((wrap64 ((wrap64 ((wrap64 ((wrap64 ((wrap64 ((wrap64 ((wrap64 ((wrap64 ((wrap64 ((wrap64 ((wrap64 (x1_1 + 1)) + 1)) + 1)) + 1)) + 1)) + 1)) + 1)) + 1)) + 1)) + 1)) + 1)) + 1)) + 1)) + 1)) + 1), (rd_T58 y199 x5_1).f13, (rd_T58 y199 x5_1).f14, (⟨(rd_T58 y199 x5_1).f15.f0, (rd_T58 y199 x5_1).f15.f1⟩ : S56)⟩ : S58) ) (fun _ hk => hk); have hx56_15 := hcc56 15 _ rfl; (try simp only [show (k58).sz = 20 from rfl, Nat.mul_one, Nat.add_zero] at hx56_15); have hf56_15 := hfr56 15; (try simp only [show (k58).sz = 20 from rfl, Nat.mul_one, Nat.add_zero] at hf56_15); clear hcl56 hcc56 hfr56 hM56) | ((with_reducible refine gate_store (t := 2) (p := 125) rfl ?_); refine store_event (t := 2) (p := 125) (v := ?vo_w57) (w1 := (w55.setCell ⟨go5, (x5_1 : Int).toNat * 20 + 15, none⟩ (.int .i64 (wrap64 ((wrap64 ((wrap64 ((wrap64 ((wrap64 ((wrap64 ((wrap64 ((wrap64 ((wrap64 ((wrap64 ((wrap64 ((wrap64 ((wrap64 ((wrap64 ((wrap64 (x1_1 + 1)) + 1)) + 1)) + 1)) + 1)) + 1)) + 1)) + 1)) + 1)) + 1)) + 1)) + 1)) + 1)) + 1)) + 1))))) ?hg ?ho ?hn ?hr ?_; (case ho => rfl); (case hg => rfl); (case hn => rfl); (case hr => first | (go_simp; done) | (go_simp; rfl)); intro w57 hw; have hg : w55.grownBy w57 (some go5) := (by rw [hw]; exact HP56.2); have hp_ : Kd.R k58 58 w57 w0.heap.size (fun k_ => (P0_ k_ ∨ w.heap.size ≤ k_)) (.slice (some ⟨go5, 0, none⟩) x0_1.length a2) y200 := (by rw [hw, aj.out]; exact HP56.1); clear HP56; have n0_ := Aside0.mk (hp_); have n1_ := Aside0.mk ((by rw [hw]; exact lS1_ (HB.out) a3.out : Below w0.heap.size w0 w57)); have n2_ := Aside0.mk (Kept.of_grown (S := (fun k_ => P0_ k_)) hg (by repeat (first | (with_reducible first | exact HK.out | apply Kept.alloc | apply Kept.drewN | apply Kept.drew) | exact HK.out)) (fun k_ e_ => (a0.out.1 k_ e_))); clear a0 HB HK; have a0 := n0_; have HB := n1_; have HK := n2_; clear n0_ n1_ n2_ hg hw hp_; have p21 : 0 ≤ (x5_1 : Int) := of_decide_eq_true (by first | (with_reducible assumption) | assumption); have q21 : (x5_1 : Int) < ((x0_1.length : Int) : Int) := of_decide_eq_true (by first | (with_reducible assumption) | assumption); replace p21 := eq_true p21; replace q21 := eq_true q21; have HX58 := Aside0.mk (show Kd.R k58 58 w57 w0.heap.size (fun k_ => (P0_ k_ ∨ w.heap.size ≤ k_)) (.slice (some ⟨go5, 0, none⟩) x0_1.length a2) y200 from a0.out); obtain ⟨ce58, hcl58, hM58, hcc58, hfr58⟩ := Kd.R_elem HX58.out z58 (x5_1 : Int) (of_decide_eq_true (by first | (with_reducible assumption) | assumption)) (by have h_ : (x5_1 : Int) < ((x0_1.length : Int) : Int) := of_decide_eq_true (by first | (with_reducible assumption) | assumption); first | exact h_ | (have e_ := (Kd.R_reads' a0.out).1; omega) | simpa using h_); obtain rfl := k58_openM hM58; have HP58 := Kd.R_seg HX58.out (x5_1 : Int) (of_decide_eq_true (by first | (with_reducible assumption) | assumption)) (by have h_ : (x5_1 : Int) < ((x0_1.length : Int) : Int) := of_decide_eq_true (by first | (with_reducible assumption) | assumption); first | exact h_ | (have e_ := (Kd.R_reads' a0.out).1; omega) | simpa using h_) (seg := [.int .i64 (wrap64 ((wrap64 ((wrap64 ((wrap64 ((wrap64 ((wrap64 ((wrap64 ((wrap64 ((wrap64 ((wrap64 ((wrap64 ((wrap64 ((wrap64 ((wrap64 ((wrap64 ((wrap64 (x1_1 + 1)) + 1)) + 1)) + 1)) + 1)) + 1)) + 1)) + 1)) + 1)) + 1)) + 1)) + 1)) + 1)) + 1)) + 1)) + 1))]) (j := 16) hcl58 hcc58 (show 17 ≤ 20 from by decide) (k58_mkM _ _ _ (⟨(rd_T58 y200 x5_1).f0, (rd_T58 y200 x5_1).f1, (rd_T58 y200 x5_1).f2, (rd_T58 y200 x5_1).f3, (rd_T58 y200 x5_1).f4, (rd_T58 y200 x5_1).f5, (rd_T58 y200 x5_1).f6, (rd_T58 y200 x5_1).f7, (rd_T58 y200 x5_1).f8, (rd_T58 y200 x5_1).f9, (rd_T58 y200 x5_1).f10, (⟨(rd_T58 y200 x5_1).f11.f0, (rd_T58 y200 x5_1).f11.f1, (rd_T58 y200 x5_1).f11.f2, (rd_T58 y200 x5_1).f11.f3⟩ : S54), (rd_T58 y200 x5_1).f12, wrap64 ((wrap64 ((wrap64 ((wrap64 ((wrap64 ((wrap64 ((wrap64 ((wrap64 ((wrap64 ((wrap64 ((wrap64 ((wrap64 ((wrap64 ((wrap64 ((wrap64 ((wrap64 (x1_1 + 1)) + 1)) + 1)) + 1)) + 1)) + 1)) + 1)) + 1)) + 1)) + 1)) + 1)) + 1)) + 1)) + 1)) + 1)) + 1), (rd_T58 y200 x5_1).f14, (⟨(rd_T58 y200 x5_1).f15.f0, (rd_T58 y200 x5_1).f15.f1⟩ : S56)⟩ : S58) ) (fun _ hk => hk); have hx58_16 := hcc58 16 _ rfl; (try simp only [show (k58).sz = 20 from rfl, Nat.mul_one, Nat.add_zero] at hx58_16); have hf58_16 := hfr58 16; (try simp only [show (k58).sz = 20 from rfl, Nat.mul_one, Nat.add_zero] at hf58_16); clear hcl58 hcc58 hfr58 hM58) | ((with_reducible refine gate_store (t := 2) (p := 132) rfl ?_); refine store_event (t := 2) (p := 132) (v := ?vo_w59) (w1 := (w57.setCell ⟨go5, (x5_1 : Int).toNat * 20 + 16, none⟩ (.int .i64 (wrap64 ((wrap64 ((wrap64 ((wrap64 ((wrap64 ((wrap64 ((wrap64 ((wrap64 ((wrap64 ((wrap64 ((wrap64 ((wrap64 ((wrap64 ((wrap64 ((wrap64 ((wrap64 (x1_1 + 1)) + 1)) + 1)) + 1)) + 1)) + 1)) + 1)) + 1)) + 1)) + 1)) + 1)) + 1)) + 1)) + 1)) + 1)) + 1))))) ?hg ?ho ?hn ?hr ?_; (case ho => rfl); (case hg => rfl); (case hn => rfl); (case hr => first | (go_simp; done) | (go_simp; rfl)); intro w59 hw; have hg : w57.grownBy w59 (some go5) := (by rw [hw]; exact HP58.2); have hp_ : Kd.R k58 58 w59 w0.heap.size (fun k_ => (P0_ k_ ∨ w.heap.size ≤ k_)) (.slice (some ⟨go5, 0, none⟩) x0_1.length a2) y201 := (by rw [hw, ak.out]; exact HP58.1); clear HP58; have n0_ := Aside0.mk (hp_); have n1_ := Aside0.mk ((by rw [hw]; exact lS1_ (HB.out) a3.out : Below w0.heap.size w0 w59)); have n2_ := Aside0.mk (Kept.of_grown (S := (fun k_ => P0_ k_)) hg (by repeat (first | (with_reducible first | exact HK.out | apply Kept.alloc | apply Kept.drewN | apply Kept.drew) | exact HK.out)) (fun k_ e_ => (a0.out.1 k_ e_))); clear a0 HB HK; have a0 := n0_; have HB := n1_; have HK := n2_; clear n0_ n1_ n2_ hg hw hp_; have p22 : 0 ≤ (x5_1 : Int) := of_decide_eq_true (by first | (with_reducible assumption) | assumption); have q22 : (x5_1 : Int) < ((x0_1.length : Int) : Int) := of_decide_eq_true (by first | (with_reducible assumption) | assumption); replace p22 := eq_true p22; replace q22 := eq_true q22; have HX60 := Aside0.mk (show Kd.R k58 58 w59 w0.heap.size (fun k_ => (P0_ k_ ∨ w.heap.size ≤ k_)) (.slice (some ⟨go5, 0, none⟩) x0_1.length a2) y201 from a0.out); obtain ⟨ce60, hcl60, hM60, hcc60, hfr60⟩ := Kd.R_elem HX60.out z58 (x5_1 : Int) (of_decide_eq_true (by first | (with_reducible assumption) | assumption)) (by have h_ : (x5_1 : Int) < ((x0_1.length : Int) : Int) := of_decide_eq_true (by first | (with_reducible assumption) | assumption); first | exact h_ | (have e_ := (Kd.R_reads' a0.out).1; omega) | simpa using h_); obtain rfl := k58_openM hM60; have HP60 := Kd.R_seg HX60.out (x5_1 : Int) (of_decide_eq_true (by first | (with_reducible assumption) | assumption)) (by have h_ : (x5_1 : Int) < ((x0_1.length : Int) : Int) := of_decide_eq_true (by first | (with_reducible assumption) | assumption); first | exact h_ | (have e_ := (Kd.R_reads' a0.out).1; omega) | simpa using h_) (seg := [.int .i64 (wrap64 ((wrap64 ((wrap64 ((wrap64 ((wrap64 ((wrap64 ((wrap64 ((wrap64 ((wrap64 ((wrap64 ((wrap64 ((wrap64 ((wrap64 ((wrap64 ((wrap64 ((wrap64 ((wrap64 (x1_1 + 1)) + 1)) + 1)) + 1)) + 1)) + 1)) + 1)) + 1)) + 1)) + 1)) + 1)) + 1)) + 1)) + 1)) + 1)) + 1)) + 1))]) (j := 17) hcl60 hcc60 (show 18 ≤ 20 from by decide) (k58_mkM _ _ _ (⟨(rd_T58 y201 x5_1).f0, (rd_T58 y201 x5_1).f1, (rd_T58 y201 x5_1).f2, (rd_T58 y201 x5_1).f3, (rd_T58 y201 x5_1).f4, (rd_T58 y201 x5_1).f5, (rd_T58 y201 x5_1).f6, (rd_T58 y201 x5_1).f7, (rd_T58 y201 x5_1).f8, (rd_T58 y201 x5_1).f9, (rd_T58 y201 x5_1).f10, (⟨(rd_T58 y201 x5_1).f11.f0, (rd_T58 y201 x5_1).f11.f1, (rd_T58 y201 x5_1).f11.f2, (rd_T58 y201 x5_1).f11.f3⟩ : S54), (rd_T58 y201 x5_1).f12, (rd_T58 y201 x5_1).f13, wrap64 ((wrap64 ((wrap64 ((wrap64 ((wrap64 ((wrap64 ((wrap64 ((wrap64 ((wrap64 ((wrap64 ((wrap64 ((wrap64 ((wrap64 ((wrap64 ((wrap64 ((wrap64 ((wrap64 (x1_1 + 1)) + 1)) + 1)) + 1)) + 1)) + 1)) + 1)) + 1)) + 1)) + 1)) + 1)) + 1)) + 1)) + 1)) + 1)) + 1)) + 1), (⟨(rd_T58 y201 x5_1).f15.f0, (rd_T58 y201 x5_1).f15.f1⟩ : S56)⟩ : S58) ) (fun _ hk => hk); have hx60_17 := hcc60 17 _ rfl; (try simp only [show (k58).sz = 20 from rfl, Nat.mul_one, Nat.add_zero] at hx60_17); have hf60_17 := hfr60 17; (try simp only [show (k58).sz = 20 from rfl, Nat.mul_one, Nat.add_zero] at hf60_17); clear hcl60 hcc60 hfr60 hM60) | ((with_reducible refine gate_store (t := 2) (p := 139) rfl ?_); refine store_event (t := 2) (p := 139) (v := ?vo_w61) (w1 := (w59.setCell ⟨go5, (x5_1 : Int).toNat * 20 + 17, none⟩ (.int .i64 (wrap64 ((wrap64 ((wrap64 ((wrap64 ((wrap64 ((wrap64 ((wrap64 ((wrap64 ((wrap64 ((wrap64 ((wrap64 ((wrap64 ((wrap64 ((wrap64 ((wrap64 ((wrap64 ((wrap64 (x1_1 + 1)) + 1)) + 1)) + 1)) + 1)) + 1)) + 1)) + 1)) + 1)) + 1)) + 1)) + 1)) + 1)) + 1)) + 1)) + 1)) + 1))))) ?hg ?ho ?hn ?hr ?_; (case ho => rfl); (case hg => rfl); (case hn => rfl); (case hr => first | (go_simp; done) | (go_simp; rfl)); intro w61 hw; have hg : w59.grownBy w61 (some go5) := (by rw [hw]; exact HP60.2); have hp_ : Kd.R k58 58 w61 w0.heap.size (fun k_ => (P0_ k_ ∨ w.heap.size ≤ k_)) (.slice (some ⟨go5, 0, none⟩) x0_1.length a2) y202 := (by rw [hw, al.out]; exact HP60.1); clear HP60; have n0_ := Aside0.mk (hp_); have n1_ := Aside0.mk ((by rw [hw]; exact lS1_ (HB.out) a3.out : Below w0.heap.size w0 w61)); have n2_ := Aside0.mk (Kept.of_grown (S := (fun k_ => P0_ k_)) hg (by repeat (first | (with_reducible first | exact HK.out | apply Kept.alloc | apply Kept.drewN | apply Kept.drew) | exact HK.out)) (fun k_ e_ => (a0.out.1 k_ e_))); clear a0 HB HK; have a0 := n0_; have HB := n1_; have HK := n2_; clear n0_ n1_ n2_ hg hw hp_; have p23 : 0 ≤ (x5_1 : Int) := of_decide_eq_true (by first | (with_reducible assumption) | assumption); have q23 : (x5_1 : Int) < ((x0_1.length : Int) : Int) := of_decide_eq_true (by first | (with_reducible assumption) | assumption); replace p23 := eq_true p23; replace q23 := eq_true q23; have HX62 := Aside0.mk (show Kd.R k58 58 w61 w0.heap.size (fun k_ => (P0_ k_ ∨ w.heap.size ≤ k_)) (.slice (some ⟨go5, 0, none⟩) x0_1.length a2) y202 from a0.out); obtain ⟨ce62, hcl62, hM62, hcc62, hfr62⟩ := Kd.R_elem HX62.out z58 (x5_1 : Int) (of_decide_eq_true (by first | (with_reducible assumption) | assumption)) (by have h_ : (x5_1 : Int) < ((x0_1.length : Int) : Int) := of_decide_eq_true (by first | (with_reducible assumption) | assumption); first | exact h_ | (have e_ := (Kd.R_reads' a0.out).1; omega) | simpa using h_); obtain rfl := k58_openM hM62; have HP62 := Kd.R_seg HX62.out (x5_1 : Int) (of_decide_eq_true (by first | (with_reducible assumption) | assumption)) (by have h_ : (x5_1 : Int) < ((x0_1.length : Int) : Int) := of_decide_eq_true (by first | (with_reducible assumption) | assumption); first | exact h_ | (have e_ := (Kd.R_reads' a0.out).1; omega) | simpa using h_) (seg := [.int .i64 (wrap64 ((wrap64 ((wrap64 ((wrap64 ((wrap64 ((wrap64 ((wrap64 ((wrap64 ((wrap64 ((wrap64 ((wrap64 ((wrap64 ((wrap64 ((wrap64 ((wrap64 ((wrap64 ((wrap64 ((wrap64 (x1_1 + 1)) + 1)) + 1)) + 1)) + 1)) + 1)) + 1)) + 1)) + 1)) + 1)) + 1)) + 1)) + 1)) + 1)) + 1)) + 1)) + 1)) + 1))]) (j := 18) hcl62 hcc62 (show 19 ≤ 20 from by decide) (k58_mkM _ _ _ (⟨(rd_T58 y202 x5_1).f0, (rd_T58 y202 x5_1).f1, (rd_T58 y202 x5_1).f2, (rd_T58 y202 x5_1).f3, (rd_T58 y202 x5_1).f4, (rd_T58 y202 x5_1).f5, (rd_T58 y202 x5_1).f6, (rd_T58 y202 x5_1).f7, (rd_T58 y202 x5_1).f8, (rd_T58 y202 x5_1).f9, (rd_T58 y202 x5_1).f10, (⟨(rd_T58 y202 x5_1).f11.f0, (rd_T58 y202 x5_1).f11.f1, (rd_T58 y202 x5_1).f11.f2, (rd_T58 y202 x5_1).f11.f3⟩ : S54), (rd_T58 y202 x5_1).f12, (rd_T58 y202 x5_1).f13, (rd_T58 y202 x5_1).f14, (⟨wrap64 ((wrap64 ((wrap64 ((wrap64 ((wrap64 ((wrap64 ((wrap64 ((wrap64 ((wrap64 ((wrap64 ((wrap64 ((wrap64 ((wrap64 ((wrap64 ((wrap64 ((wrap64 ((wrap64 ((wrap64 (x1_1 + 1)) + 1)) + 1)) + 1)) + 1)) + 1)) + 1)) + 1)) + 1)) + 1)) + 1)) + 1)) + 1)) + 1)) + 1)) + 1)) + 1)) + 1), (rd_T58 y202 x5_1).f15.f1⟩ : S56)⟩ : S58) ) (fun _ hk => hk); have hx62_18 := hcc62 18 _ rfl; (try simp only [show (k58).sz = 20 from rfl, Nat.mul_one, Nat.add_zero] at hx62_18); have hf62_18 := hfr62 18; (try simp only [show (k58).sz = 20 from rfl, Nat.mul_one, Nat.add_zero] at hf62_18); clear hcl62 hcc62 hfr62 hM62) | ((with_reducible refine gate_store (t := 2) (p := 147) rfl ?_); refine store_event (t := 2) (p := 147) (v := ?vo_w63) (w1 := (w61.setCell ⟨go5, (x5_1 : Int).toNat * 20 + 18, none⟩ (.int .i64 (wrap64 ((wrap64 ((wrap64 ((wrap64 ((wrap64 ((wrap64 ((wrap64 ((wrap64 ((wrap64 ((wrap64 ((wrap64 ((wrap64 ((wrap64 ((wrap64 ((wrap64 ((wrap64 ((wrap64 ((wrap64 (x1_1 + 1)) + 1)) + 1)) + 1)) + 1)) + 1)) + 1)) + 1)) + 1)) + 1)) + 1)) + 1)) + 1)) + 1)) + 1)) + 1)) + 1)) + 1))))) ?hg ?ho ?hn ?hr ?_; (case ho => rfl); (case hg => rfl); (case hn => rfl); (case hr => first | (go_simp; done) | (go_simp; rfl)); intro w63 hw; have hg : w61.grownBy w63 (some go5) := (by rw [hw]; exact HP62.2); have hp_ : Kd.R k58 58 w63 w0.heap.size (fun k_ => (P0_ k_ ∨ w.heap.size ≤ k_)) (.slice (some ⟨go5, 0, none⟩) x0_1.length a2) y203 := (by rw [hw, am.out]; exact HP62.1); clear HP62; have n0_ := Aside0.mk (hp_); have n1_ := Aside0.mk ((by rw [hw]; exact lS1_ (HB.out) a3.out : Below w0.heap.size w0 w63)); have n2_ := Aside0.mk (Kept.of_grown (S := (fun k_ => P0_ k_)) hg (by repeat (first | (with_reducible first | exact HK.out | apply Kept.alloc | apply Kept.drewN | apply Kept.drew) | exact HK.out)) (fun k_ e_ => (a0.out.1 k_ e_))); clear a0 HB HK; have a0 := n0_; have HB := n1_; have HK := n2_; clear n0_ n1_ n2_ hg hw hp_; have p24 : 0 ≤ (x5_1 : Int) := of_decide_eq_true (by first | (with_reducible assumption) | assumption); have q24 : (x5_1 : Int) < ((x0_1.length : Int) : Int) := of_decide_eq_true (by first | (with_reducible assumption) | assumption); replace p24 := eq_true p24; replace q24 := eq_true q24; have HX64 := Aside0.mk (show Kd.R k58 58 w63 w0.heap.size (fun k_ => (P0_ k_ ∨ w.heap.size ≤ k_)) (.slice (some ⟨go5, 0, none⟩) x0_1.length a2) y203 from a0.out); obtain ⟨ce64, hcl64, hM64, hcc64, hfr64⟩ := Kd.R_elem HX64.out z58 (x5_1 : Int) (of_decide_eq_true (by first | (with_reducible assumption) | assumption)) (by have h_ : (x5_1 : Int) < ((x0_1.length : Int) : Int) := of_decide_eq_true (by first | (with_reducible assumption) | assumption); first | exact h_ | (have e_ := (Kd.R_reads' a0.out).1; omega) | simpa using h_); obtain rfl := k58_openM hM64; have HP64 := Kd.R_seg HX64.out (x5_1 : Int) (of_decide_eq_true (by first | (with_reducible assumption) | assumption)) (by have h_ : (x5_1 : Int) < ((x0_1.length : Int) : Int) := of_decide_eq_true (by first | (with_reducible assumption) | assumption); first | exact h_ | (have e_ := (Kd.R_reads' a0.out).1; omega) | simpa using h_) (seg := [.int .i64 (wrap64 ((wrap64 ((wrap64 ((wrap64 ((wrap64 ((wrap64 ((wrap64 ((wrap64 ((wrap64 ((wrap64 ((wrap64 ((wrap64 ((wrap64 ((wrap64 ((wrap64 ((wrap64 ((wrap64 ((wrap64 ((wrap64 (x1_1 + 1)) + 1)) + 1)) + 1)) + 1)) + 1)) + 1)) + 1)) + 1)) + 1)) + 1)) + 1)) + 1)) + 1)) + 1)) + 1)) + 1)) + 1)) + 1))]) (j := 19) hcl64 hcc64 (show 20 ≤ 20 from by decide) (k58_mkM _ _ _ (⟨(rd_T58 y203 x5_1).f0, (rd_T58 y203 x5_1).f1, (rd_T58 y203 x5_1).f2, (rd_T58 y203 x5_1).f3, (rd_T58 y203 x5_1).f4, (rd_T58 y203 x5_1).f5, (rd_T58 y203 x5_1).f6, (rd_T58 y203 x5_1).f7, (rd_T58 y203 x5_1).f8, (rd_T58 y203 x5_1).f9, (rd_T58 y203 x5_1).f10, (⟨(rd_T58 y203 x5_1).f11.f0, (rd_T58 y203 x5_1).f11.f1, (rd_T58 y203 x5_1).f11.f2, (rd_T58 y203 x5_1).f11.f3⟩ : S54), (rd_T58 y203 x5_1).f12, (rd_T58 y203 x5_1).f13, (rd_T58 y203 x5_1).f14, (⟨(rd_T58 y203 x5_1).f15.f0, wrap64 ((wrap64 ((wrap64 ((wrap64 ((wrap64 ((wrap64 ((wrap64 ((wrap64 ((wrap64 ((wrap64 ((wrap64 ((wrap64 ((wrap64 ((wrap64 ((wrap64 ((wrap64 ((wrap64 ((wrap64 ((wrap64 (x1_1 + 1)) + 1)) + 1)) + 1)) + 1)) + 1)) + 1)) + 1)) + 1)) + 1)) + 1)) + 1)) + 1)) + 1)) + 1)) + 1)) + 1)) + 1)) + 1)⟩ : S56)⟩ : S58) ) (fun _ hk => hk); have hx64_19 := hcc64 19 _ rfl; (try simp only [show (k58).sz = 20 from rfl, Nat.mul_one, Nat.add_zero] at hx64_19); have hf64_19 := hfr64 19; (try simp only [show (k58).sz = 20 from rfl, Nat.mul_one, Nat.add_zero] at hf64_19); clear hcl64 hcc64 hfr64 hM64) | ((with_reducible refine gate_store (t := 2) (p := 155) rfl ?_); refine store_event (t := 2) (p := 155) (v := ?vo_w65) (w1 := (w63.setCell ⟨go5, (x5_1 : Int).toNat * 20 + 19, none⟩ (.int .i64 (wrap64 ((wrap64 ((wrap64 ((wrap64 ((wrap64 ((wrap64 ((wrap64 ((wrap64 ((wrap64 ((wrap64 ((wrap64 ((wrap64 ((wrap64 ((wrap64 ((wrap64 ((wrap64 ((wrap64 ((wrap64 ((wrap64 (x1_1 + 1)) + 1)) + 1)) + 1)) + 1)) + 1)) + 1)) + 1)) + 1)) + 1)) + 1)) + 1)) + 1)) + 1)) + 1)) + 1)) + 1)) + 1)) + 1))))) ?hg ?ho ?hn ?hr ?_; (case ho => rfl); (case hg => rfl); (case hn => rfl); (case hr => first | (go_simp; done) | (go_simp; rfl)); intro w65 hw; have hg : w63.grownBy w65 (some go5) := (by rw [hw]; exact HP64.2); have hp_ : Kd.R k58 58 w65 w0.heap.size (fun k_ => (P0_ k_ ∨ w.heap.size ≤ k_)) (.slice (some ⟨go5, 0, none⟩) x0_1.length a2) y204 := (by rw [hw, an.out]; exact HP64.1); clear HP64; have n0_ := Aside0.mk (hp_); have n1_ := Aside0.mk ((by rw [hw]; exact lS1_ (HB.out) a3.out : Below w0.heap.size w0 w65)); have n2_ := Aside0.mk (Kept.of_grown (S := (fun k_ => P0_ k_)) hg (by repeat (first | (with_reducible first | exact HK.out | apply Kept.alloc | apply Kept.drewN | apply Kept.drew) | exact HK.out)) (fun k_ e_ => (a0.out.1 k_ e_))); clear a0 HB HK; have a0 := n0_; have HB := n1_; have HK := n2_; clear n0_ n1_ n2_ hg hw hp_))
     go_roundg k1
     case measure => have := HK1.out; omega
     case rel => exact ⟨(y204), (wrap64 ((wrap64 ((wrap64 ((wrap64 ((wrap64 ((wrap64 ((wrap64 ((wrap64 ((wrap64 ((wrap64 ((wrap64 ((wrap64 ((wrap64 ((wrap64 ((wrap64 ((wrap64 ((wrap64 ((wrap64 ((wrap64 ((wrap64 (x1_1 + 1)) + 1)) + 1)) + 1)) + 1)) + 1)) + 1)) + 1)) + 1)) + 1)) + 1)) + 1)) + 1)) + 1)) + 1)) + 1)) + 1)) + 1)) + 1)) + 1)), (wrap64 (x5_1 + 1)), (by first | rfl | (simp; done) | (simp [*]; done)), (by first | rfl | (simp; done) | (simp [*]; done)), H', ⟨by have := HK1.out; omega⟩, ⟨by (with_reducible repeat first | apply rA_ | apply rN_ | apply rD_); exact a0.out⟩, ⟨by repeat (first | (with_reducible first | exact HK.out | apply Kept.alloc | apply Kept.drewN | apply Kept.drew) | exact HK.out)⟩, ⟨by repeat (first | (with_reducible first | exact HB.out | apply lA1_ | apply lN_ | apply lD_) | exact HB.out)⟩⟩
    ·rw [if_neg c4] at H
     exact absurd H (by simp)
   ·rw [if_neg c3] at H
    have c3b0 : decide (x5_1 < (x0_1.length : Int)) = false := decide_eq_false c3
    clear c3
    simp only [Option.some.injEq, Prod.mk.injEq] at H
    obtain ⟨rfl, rfl⟩ := H
    obtain ⟨ar, au, eo66⟩ := Kd.R_slice a0.out
    subst eo66
    go_wp2
    go_ret
    exact ⟨by first | rfl | (simp [errW_none, errW_some] <;> rfl) | (simp [*, errW_none, errW_some] <;> rfl), by (with_reducible repeat first | apply rA_ | apply rN_ | apply rD_); exact a0.out, by repeat (first | (with_reducible first | exact HB.out | apply lA1_ | apply lN_ | apply lD_) | exact HB.out), by repeat (first | (with_reducible first | exact HK.out | apply Kept.alloc | apply Kept.drewN | apply Kept.drew) | exact HK.out)⟩
def laws_markGate.f (k : Nat) (a0_0 : Int) (a0_1 : Int) (l0_2 : List (S58)) (a1 : Int) : Option (Int × (List (S58))) := (laws_markTalkS.f k l0_2 a1).bind fun bt206 => (some (bt206.1, bt206.2))
set_option maxHeartbeats 8000000 in
set_option maxRecDepth 100000 in
theorem laws_markGate.calls (k : Nat) (a0_0 : Int) (a0_1 : Int) (P0_2_ : Nat → Prop) (u9000_ : Value) (l0_2 : List (S58)) (a1 : Int) (r1 : Int) (r2 : List (S58)) (w0 w : World) (hB : Below w0.heap.size w0 w) (ho0_2 : Kd.R k58 58 w w0.heap.size P0_2_ u9000_ l0_2) (h : laws_markGate.f k a0_0 a0_1 l0_2 a1 = some (r1, r2)) :
  Calls Try.prog 12 #[.agg #[.int .i64 a0_0, .int .i64 a0_1, u9000_], .int .i64 a1] w fun e w' => e = .returned (.int .i64 r1) ∧ Kd.R k58 58 w' w0.heap.size (fun k_ => (P0_2_ k_ ∨ w.heap.size ≤ k_)) u9000_ r2 ∧ Below w0.heap.size w0 w' ∧ Kept w w' (fun k_ => P0_2_ k_) := by
 have hu32 := Try.underlying32
 have HO0_2 := Aside0.mk (show Kd.R k58 58 w w0.heap.size (fun k_ => (P0_2_ k_ ∨ w.heap.size ≤ k_)) u9000_ l0_2 from Kd.R_mono ho0_2 (fun k_ hk => (.inl hk)))
 have HK := Aside0.mk (Kept.refl w (fun k_ => P0_2_ k_))
 have HW0 := Aside0.mk hB.size
 have HB := Aside0.mk hB
 clear hB
 have H : ((laws_markTalkS.f k l0_2 a1).bind fun bt206 => (some (bt206.1, bt206.2))) = some (r1, r2) := h
 clear h
 replace H := Option.bind_eq_some_iff.mp H
 obtain ⟨⟨t206, t207⟩, A30, H⟩ := H
 try dsimp only at H
 have A3 := Aside0.mk A30
 clear A30
 simp only [Option.some.injEq, Prod.mk.injEq] at H
 obtain ⟨rfl, rfl⟩ := H
 obtain ⟨Ao4, co4, eo4⟩ := Kd.R_slice HO0_2.out
 subst eo4
 go_enter Try.func12, Try.ntmps12
 go_wp2_with (first | ((with_reducible refine gate_dst (N := 2) rfl ?_); refine box_event ?hg (N := 2) ?hd (cs := #[.int .i64 a0_0, .int .i64 a0_1, .slice Ao4 l0_2.length co4]) (t := 32) ?hr ?_; (case hd => rfl); (case hg => rfl); (case hr => first | (go_simp; done) | (go_simp; rfl)); intro gb205 hg w5 hbox hb; have n0_ := Aside0.mk (Kd.R_below HO0_2.out hb); have n1_ := Aside0.mk (Kept.below (S := (fun k_ => P0_2_ k_)) (by repeat (first | (with_reducible first | exact HK.out | apply Kept.alloc | apply Kept.drewN | apply Kept.drew) | exact HK.out)) hb); have n2_ := Aside0.mk (lP_ HB.out hb); have n3_ := Aside0.mk (hbox); have n4_ := Aside0.mk ((by rw [hg]; exact (by first | exact HK.out.1 | exact (show Kept w _ (fun k_ => P0_2_ k_) from by repeat (first | (with_reducible first | exact HK.out | apply Kept.alloc | apply Kept.drewN | apply Kept.drew) | exact HK.out)).1) : w.heap.size ≤ gb205)); have n5_ := Aside0.mk ((by rw [hg]; exact (below_size HB.out) : w0.heap.size ≤ gb205)); clear HO0_2 HK HB; have HO0_2 := n0_; have HK := n1_; have HB := n2_; have BK205 := n3_; have GW205 := n4_; have GE205 := n5_; clear n0_ n1_ n2_ n3_ n4_ n5_ hb hbox hg; obtain ⟨_, _, _, _, _, _⟩ := bc3 BK205.out) | ((with_reducible refine gate_callee (f := 29) rfl ?_); refine goesA_ (some 8) rfl rfl Try.func29 (by kernel_rfl) rfl #[.slice Ao4 l0_2.length co4, .int .i64 a1] rfl ?_; (with_reducible refine (laws_markTalkS.calls k (fun k_ => some k_ = (.slice Ao4 l0_2.length co4 : Value).ownBlock) (.slice Ao4 l0_2.length co4) l0_2 a1 t206 t207 w0 _ ?side1 ?side2 A3.out).mono ?_); (case side1 => repeat (first | (with_reducible first | exact HB.out | refine lS1_ ?_ GE205.out) | exact HB.out)); (case side2 => exact Kd.R_tight rfl HO0_2.out); rintro e w7 ⟨rfl, hy0, hb, hkp⟩; refine ⟨_, rfl, ?_⟩; have n0_ := Aside0.mk (Kd.R_reok rfl hy0 (fun k_ e_ => HO0_2.out.1 k_ e_)); have n2_ := Aside0.mk (Kept.then_ (S := (fun k_ => P0_2_ k_)) (by repeat (first | (with_reducible first | exact HK.out | apply Kept.alloc | apply Kept.drewN | apply Kept.drew | refine Kept.setCell ?_ (.inr GW205.out) _) | exact HK.out)) hkp (fun k_ hs_ => (fun e_ => (HO0_2.out.1 k_ e_.symm)) hs_)); have n3_ := Aside0.mk (hb); clear HO0_2 HK HB; have HO0_2 := n0_; have HK := n2_; have HB := n3_; clear n0_ n2_ n3_; (try clear hb); (try clear hkp); (try clear hy0)))
 go_ret
 exact ⟨by first | rfl | (simp [errW_none, errW_some] <;> rfl) | (simp [*, errW_none, errW_some] <;> rfl), by (with_reducible repeat first | apply rA_ | apply rN_ | apply rD_); exact HO0_2.out, by repeat (first | (with_reducible first | exact HB.out | apply lA1_ | apply lN_ | apply lD_ | refine lS1_ ?_ GE205.out) | exact HB.out), by repeat (first | (with_reducible first | exact HK.out | apply Kept.alloc | apply Kept.drewN | apply Kept.drew | refine Kept.setCell ?_ (.inr GW205.out) _) | exact HK.out)⟩
def laws_markInt64S.l0 : Nat → List Int → Int → Int → Option (Int × List Int)
 | 0, _, _, _ => none
 | k + 1, x0, x1, x5 => if x5 < (x0.length : Int) then (if 0 ≤ x5 then (laws_markInt64S.l0 k (x0.set (x5 : Int).toNat x1) (wrap64 (x1 + 1)) (wrap64 (x5 + 1))) else (none)) else (some (x1, x0))
def laws_markInt64S.f (k : Nat) (l0 : List Int) (a1 : Int) : Option (Int × List Int) := laws_markInt64S.l0 k l0 a1 0
set_option maxHeartbeats 8000000 in
set_option maxRecDepth 100000 in
theorem laws_markInt64S.calls (k : Nat) (P0_ : Nat → Prop) (u9000_ : Value) (l0 : List Int) (a1 : Int) (r1 : Int) (r2 : List Int) (w0 w : World) (hB : Below w0.heap.size w0 w) (ho0 : Kd.R (Kd.int .i64) 2 w w0.heap.size P0_ u9000_ l0) (h : laws_markInt64S.f k l0 a1 = some (r1, r2)) :
  Calls Try.prog 30 #[u9000_, .int .i64 a1] w fun e w' => e = .returned (.int .i64 r1) ∧ Kd.R (Kd.int .i64) 2 w' w0.heap.size (fun k_ => (P0_ k_ ∨ w.heap.size ≤ k_)) u9000_ r2 ∧ Below w0.heap.size w0 w' ∧ Kept w w' (fun k_ => P0_ k_) := by
 have a4 := Aside0.mk (show Kd.R (Kd.int .i64) 2 w w0.heap.size (fun k_ => (P0_ k_ ∨ w.heap.size ≤ k_)) u9000_ l0 from Kd.R_mono ho0 (fun k_ hk => (.inl hk)))
 have HK := Aside0.mk (Kept.refl w (fun k_ => P0_ k_))
 have HW0 := Aside0.mk hB.size
 have HB := Aside0.mk hB
 clear hB
 have H : (laws_markInt64S.l0 k l0 a1 0) = some (r1, r2) := h
 clear h
 have H' := Aside0.mk H
 clear H
 go_enter Try.func30, Try.ntmps30
 go_wp2
 go_loopg [1, 5] k (fun kq v1 v5 w' => ∃ (x0_1 : List Int) (x1_1 : Int) (x5_1 : Int), v1 = .int .i64 x1_1 ∧ v5 = .int .i64 x5_1 ∧ Aside0 (laws_markInt64S.l0 kq x0_1 x1_1 x5_1 = some (r1, r2)) ∧ Aside0 (kq ≤ k) ∧ Aside0 (Kd.R (Kd.int .i64) 2 w' w0.heap.size (fun k_ => (P0_ k_ ∨ w.heap.size ≤ k_)) u9000_ x0_1) ∧ Aside0 (Kept w w' (fun k_ => P0_ k_)) ∧ Aside0 (Below w0.heap.size w0 w'))
 case atStart => exact ⟨(l0), (a1), (0), (by first | rfl | (simp; done) | (simp [*]; done)), (by first | rfl | (simp; done) | (simp [*]; done)), H', ⟨Nat.le_refl _⟩, ⟨by (with_reducible repeat first | apply rA_ | apply rN_ | apply rD_); exact a4.out⟩, ⟨by repeat (first | (with_reducible first | exact HK.out | apply Kept.alloc | apply Kept.drewN | apply Kept.drew) | exact HK.out)⟩, ⟨by repeat (first | (with_reducible first | exact HB.out | apply lA1_ | apply lN_ | apply lD_) | exact HB.out)⟩⟩
 case round =>
  clear H'
  try clear p2
  obtain ⟨x0_1, x1_1, x5_1, rfl, rfl, HA, HK1, a0, HK, HB⟩ := hrel
  cases gk with
  | zero => exact absurd HA.out (by simp [laws_markInt64S.l0])
  | succ k1 =>
   have H := HA.out
   clear HA
   simp only [laws_markInt64S.l0] at H
   by_cases c3 : x5_1 < (x0_1.length : Int)
   ·rw [if_pos c3] at H
    have c3b0 : decide (x5_1 < (x0_1.length : Int)) = true := decide_eq_true c3
    clear c3
    by_cases c4 : 0 ≤ x5_1
    ·rw [if_pos c4] at H
     have c4b0 : decide (0 ≤ x5_1) = true := decide_eq_true c4
     clear c4
     obtain ⟨y208, hy208⟩ : ∃ y_ : List Int, y_ = (x0_1.set (x5_1 : Int).toNat x1_1) := ⟨_, rfl⟩
     replace H : (laws_markInt64S.l0 k1 y208 (wrap64 (x1_1 + 1)) (wrap64 (x5_1 + 1))) = some (r1, r2) := by first | (rw [hy208]; with_reducible exact H) | (have H2_ := (Option.bind_some _ _).symm.trans H; rw [hy208]; with_reducible exact H2_) | (have H2_ := (Option.bind_some _ _).symm.trans H; with_reducible exact H2_) | with_reducible exact H | (rw [hy208]; exact H) | exact H
     have a2 := Aside0.mk hy208
     clear hy208
     have H' := Aside0.mk H
     clear H
     obtain ⟨a7, a5, eo6⟩ := Kd.R_slice a0.out
     subst eo6
     have p5 : 0 ≤ (x5_1 : Int) := of_decide_eq_true (by first | (with_reducible assumption) | assumption)
     have q5 : (x5_1 : Int) < ((x0_1.length : Int) : Int) := of_decide_eq_true (by first | (with_reducible assumption) | assumption)
     obtain ⟨go5, a8, eo5, a3, gl5, cl5, HG5⟩ := Kd.R_form a0.out (by omega)
     (first | cases eo5 | (injection eo5 with ea_ en_ ec_; (first | subst ea_ | (injection ea_ with ea_; subst ea_)); subst ec_; clear en_))
     have a6 := Aside0.mk a3
     have GG5 := Aside0.mk HG5
     clear a3 gl5 HG5
     have HMgo5 := Aside0.mk (show (P0_ go5 ∨ w.heap.size ≤ go5) from (a0.out.1 _ rfl))
     obtain ⟨hx5_0, hf5_0⟩ := Kd.R_celln 0 a0.out (x5_1 : Int) p5 q5
     replace p5 := eq_true p5
     replace q5 := eq_true q5
     have HP7 := Kd.R_putg a0.out (x5_1 : Int) x1_1
     go_wp2_with (first | ((with_reducible refine gate_store (t := 2) (p := 15) rfl ?_); refine store_event (t := 2) (p := 15) (v := ?vo_w8) (w1 := (wr.setCell ⟨go5, (x5_1 : Int).toNat, none⟩ (.int .i64 x1_1))) ?hg ?ho ?hn ?hr ?_; (case ho => rfl); (case hg => rfl); (case hn => rfl); (case hr => first | (go_simp; done) | (go_simp; rfl)); intro w8 hw; have hg : wr.grownBy w8 (some go5) := (by rw [hw]; exact HP7.2); have hp_ : Kd.R (Kd.int .i64) 2 w8 w0.heap.size (fun k_ => (P0_ k_ ∨ w.heap.size ≤ k_)) (.slice (some ⟨go5, 0, none⟩) x0_1.length a5) y208 := (by rw [hw, a2.out]; exact HP7.1); clear HP7; have n0_ := Aside0.mk (hp_); have n1_ := Aside0.mk ((by rw [hw]; exact lS1_ (HB.out) a6.out : Below w0.heap.size w0 w8)); have n2_ := Aside0.mk (Kept.of_grown (S := (fun k_ => P0_ k_)) hg (by repeat (first | (with_reducible first | exact HK.out | apply Kept.alloc | apply Kept.drewN | apply Kept.drew) | exact HK.out)) (fun k_ e_ => (a0.out.1 k_ e_))); clear a0 HB HK; have a0 := n0_; have HB := n1_; have HK := n2_; clear n0_ n1_ n2_ hg hw hp_))
     go_roundg k1
     case measure => have := HK1.out; omega
     case rel => exact ⟨(y208), (wrap64 (x1_1 + 1)), (wrap64 (x5_1 + 1)), (by first | rfl | (simp; done) | (simp [*]; done)), (by first | rfl | (simp; done) | (simp [*]; done)), H', ⟨by have := HK1.out; omega⟩, ⟨by (with_reducible repeat first | apply rA_ | apply rN_ | apply rD_); exact a0.out⟩, ⟨by repeat (first | (with_reducible first | exact HK.out | apply Kept.alloc | apply Kept.drewN | apply Kept.drew) | exact HK.out)⟩, ⟨by repeat (first | (with_reducible first | exact HB.out | apply lA1_ | apply lN_ | apply lD_) | exact HB.out)⟩⟩
    ·rw [if_neg c4] at H
     exact absurd H (by simp)
   ·rw [if_neg c3] at H
    have c3b0 : decide (x5_1 < (x0_1.length : Int)) = false := decide_eq_false c3
    clear c3
    simp only [Option.some.injEq, Prod.mk.injEq] at H
    obtain ⟨rfl, rfl⟩ := H
    obtain ⟨a9, aa, eo9⟩ := Kd.R_slice a0.out
    subst eo9
    go_wp2
    go_ret
    exact ⟨by first | rfl | (simp [errW_none, errW_some] <;> rfl) | (simp [*, errW_none, errW_some] <;> rfl), by (with_reducible repeat first | apply rA_ | apply rN_ | apply rD_); exact a0.out, by repeat (first | (with_reducible first | exact HB.out | apply lA1_ | apply lN_ | apply lD_) | exact HB.out), by repeat (first | (with_reducible first | exact HK.out | apply Kept.alloc | apply Kept.drewN | apply Kept.drew) | exact HK.out)⟩
def laws_markIntsResult.f (k : Nat) (a0_0 : Int) (l0_1 : List Int) (a1 : Int) : Option (Int × List Int) := (laws_markInt64S.f k l0_1 a1).bind fun bt210 => (some (bt210.1, bt210.2))
set_option maxHeartbeats 8000000 in
set_option maxRecDepth 100000 in
theorem laws_markIntsResult.calls (k : Nat) (a0_0 : Int) (P0_1_ : Nat → Prop) (u9000_ : Value) (l0_1 : List Int) (a1 : Int) (r1 : Int) (r2 : List Int) (w0 w : World) (hB : Below w0.heap.size w0 w) (ho0_1 : Kd.R (Kd.int .i64) 2 w w0.heap.size P0_1_ u9000_ l0_1) (h : laws_markIntsResult.f k a0_0 l0_1 a1 = some (r1, r2)) :
  Calls Try.prog 13 #[.agg #[.int .i64 a0_0, u9000_], .int .i64 a1] w fun e w' => e = .returned (.int .i64 r1) ∧ Kd.R (Kd.int .i64) 2 w' w0.heap.size (fun k_ => (P0_1_ k_ ∨ w.heap.size ≤ k_)) u9000_ r2 ∧ Below w0.heap.size w0 w' ∧ Kept w w' (fun k_ => P0_1_ k_) := by
 have hu28 := Try.underlying28
 have HO0_1 := Aside0.mk (show Kd.R (Kd.int .i64) 2 w w0.heap.size (fun k_ => (P0_1_ k_ ∨ w.heap.size ≤ k_)) u9000_ l0_1 from Kd.R_mono ho0_1 (fun k_ hk => (.inl hk)))
 have HK := Aside0.mk (Kept.refl w (fun k_ => P0_1_ k_))
 have HW0 := Aside0.mk hB.size
 have HB := Aside0.mk hB
 clear hB
 have H : ((laws_markInt64S.f k l0_1 a1).bind fun bt210 => (some (bt210.1, bt210.2))) = some (r1, r2) := h
 clear h
 replace H := Option.bind_eq_some_iff.mp H
 obtain ⟨⟨t210, t211⟩, A30, H⟩ := H
 try dsimp only at H
 have A3 := Aside0.mk A30
 clear A30
 simp only [Option.some.injEq, Prod.mk.injEq] at H
 obtain ⟨rfl, rfl⟩ := H
 obtain ⟨Ao4, co4, eo4⟩ := Kd.R_slice HO0_1.out
 subst eo4
 go_enter Try.func13, Try.ntmps13
 go_wp2_with (first | ((with_reducible refine gate_dst (N := 2) rfl ?_); refine box_event ?hg (N := 2) ?hd (cs := #[.int .i64 a0_0, .slice Ao4 l0_1.length co4]) (t := 28) ?hr ?_; (case hd => rfl); (case hg => rfl); (case hr => first | (go_simp; done) | (go_simp; rfl)); intro gb209 hg w5 hbox hb; have n0_ := Aside0.mk (Kd.R_below HO0_1.out hb); have n1_ := Aside0.mk (Kept.below (S := (fun k_ => P0_1_ k_)) (by repeat (first | (with_reducible first | exact HK.out | apply Kept.alloc | apply Kept.drewN | apply Kept.drew) | exact HK.out)) hb); have n2_ := Aside0.mk (lP_ HB.out hb); have n3_ := Aside0.mk (hbox); have n4_ := Aside0.mk ((by rw [hg]; exact (by first | exact HK.out.1 | exact (show Kept w _ (fun k_ => P0_1_ k_) from by repeat (first | (with_reducible first | exact HK.out | apply Kept.alloc | apply Kept.drewN | apply Kept.drew) | exact HK.out)).1) : w.heap.size ≤ gb209)); have n5_ := Aside0.mk ((by rw [hg]; exact (below_size HB.out) : w0.heap.size ≤ gb209)); clear HO0_1 HK HB; have HO0_1 := n0_; have HK := n1_; have HB := n2_; have BK209 := n3_; have GW209 := n4_; have GE209 := n5_; clear n0_ n1_ n2_ n3_ n4_ n5_ hb hbox hg; obtain ⟨_, _, _, _⟩ := bc2 BK209.out) | ((with_reducible refine gate_callee (f := 30) rfl ?_); refine goesA_ (some 8) rfl rfl Try.func30 (by kernel_rfl) rfl #[.slice Ao4 l0_1.length co4, .int .i64 a1] rfl ?_; (with_reducible refine (laws_markInt64S.calls k (fun k_ => some k_ = (.slice Ao4 l0_1.length co4 : Value).ownBlock) (.slice Ao4 l0_1.length co4) l0_1 a1 t210 t211 w0 _ ?side1 ?side2 A3.out).mono ?_); (case side1 => repeat (first | (with_reducible first | exact HB.out | refine lS1_ ?_ GE209.out) | exact HB.out)); (case side2 => exact Kd.R_tight rfl HO0_1.out); rintro e w7 ⟨rfl, hy0, hb, hkp⟩; refine ⟨_, rfl, ?_⟩; have n0_ := Aside0.mk (Kd.R_reok rfl hy0 (fun k_ e_ => HO0_1.out.1 k_ e_)); have n2_ := Aside0.mk (Kept.then_ (S := (fun k_ => P0_1_ k_)) (by repeat (first | (with_reducible first | exact HK.out | apply Kept.alloc | apply Kept.drewN | apply Kept.drew | refine Kept.setCell ?_ (.inr GW209.out) _) | exact HK.out)) hkp (fun k_ hs_ => (fun e_ => (HO0_1.out.1 k_ e_.symm)) hs_)); have n3_ := Aside0.mk (hb); clear HO0_1 HK HB; have HO0_1 := n0_; have HK := n2_; have HB := n3_; clear n0_ n2_ n3_; (try clear hb); (try clear hkp); (try clear hy0)))
 go_ret
 exact ⟨by first | rfl | (simp [errW_none, errW_some] <;> rfl) | (simp [*, errW_none, errW_some] <;> rfl), by (with_reducible repeat first | apply rA_ | apply rN_ | apply rD_); exact HO0_1.out, by repeat (first | (with_reducible first | exact HB.out | apply lA1_ | apply lN_ | apply lD_ | refine lS1_ ?_ GE209.out) | exact HB.out), by repeat (first | (with_reducible first | exact HK.out | apply Kept.alloc | apply Kept.drewN | apply Kept.drew | refine Kept.setCell ?_ (.inr GW209.out) _) | exact HK.out)⟩
def laws_heldInt64S.l0 : Nat → List Int → Int → Int → Option (Int)
 | 0, _, _, _ => none
 | k + 1, x0, x1, x5 => if x5 < (x0.length : Int) then (if 0 ≤ x5 then (if (rd x0 x5) = x1 then (laws_heldInt64S.l0 k x0 (wrap64 (x1 + 1)) (wrap64 (x5 + 1))) else (some (-1))) else (none)) else (some x1)
def laws_heldInt64S.f (k : Nat) (l0 : List Int) (a1 : Int) : Option (Int) := laws_heldInt64S.l0 k l0 a1 0
set_option maxHeartbeats 8000000 in
set_option maxRecDepth 100000 in
theorem laws_heldInt64S.calls (k : Nat) (A0 : Option Addr) (c0 : Nat) (l0 : List Int) (a1 : Int) (r : Int) (w : World) (hr0 : Kd.C (Kd.int .i64) w A0 l0.length l0) (hc0 : l0.length ≤ c0) (h : laws_heldInt64S.f k l0 a1 = some r) :
  Calls Try.prog 31 #[.slice A0 l0.length c0, .int .i64 a1] w fun e w' => e = .returned (.int .i64 r) ∧ Drawn0 w w' := by
 have HR0 := Aside0.mk hr0
 have HC0 := Aside0.mk hc0
 clear hr0 hc0
 have H : (laws_heldInt64S.l0 k l0 a1 0) = some r := h
 clear h
 have H' := Aside0.mk H
 clear H
 go_enter Try.func31, Try.ntmps31
 go_wp2
 go_loopg [1, 5] k (fun kq v1 v5 w' => ∃ (x1_1 : Int) (x5_1 : Int), v1 = .int .i64 x1_1 ∧ v5 = .int .i64 x5_1 ∧ Aside0 (laws_heldInt64S.l0 kq l0 x1_1 x5_1 = some r) ∧ Aside0 (kq ≤ k) ∧ Drawn0 w w')
 case atStart => exact ⟨(a1), (0), (by first | rfl | (simp; done) | (simp [*]; done)), (by first | rfl | (simp; done) | (simp [*]; done)), H', ⟨Nat.le_refl _⟩, by repeat (first | exact Drawn0.refl _ | apply Drawn0.step)⟩
 case round =>
  clear H'
  try clear p2
  obtain ⟨x1_1, x5_1, rfl, rfl, HA, HK1, ⟨m1, rfl⟩⟩ := hrel
  cases gk with
  | zero => exact absurd HA.out (by simp [laws_heldInt64S.l0])
  | succ k1 =>
   have H := HA.out
   clear HA
   simp only [laws_heldInt64S.l0] at H
   by_cases c3 : x5_1 < (l0.length : Int)
   ·rw [if_pos c3] at H
    have c3b0 : decide (x5_1 < (l0.length : Int)) = true := decide_eq_true c3
    clear c3
    by_cases c4 : 0 ≤ x5_1
    ·rw [if_pos c4] at H
     have c4b0 : decide (0 ≤ x5_1) = true := decide_eq_true c4
     clear c4
     by_cases c5 : (rd l0 x5_1) = x1_1
     ·rw [if_pos c5] at H
      have c5b0 : ((rd l0 x5_1) == x1_1) = true := beq_iff_eq.mpr c5
      have c5b1 : ((rd l0 x5_1) != x1_1) = false := bne_eq_false_iff_eq.mpr c5
      clear c5
      have H' := Aside0.mk H
      clear H
      have p212 : 0 ≤ (x5_1 : Int) := of_decide_eq_true (by first | (with_reducible assumption) | assumption)
      have q212 : x5_1 < (l0.length : Int) := of_decide_eq_true (by first | (with_reducible assumption) | assumption)
      obtain ⟨ad212, e212, hx212_0⟩ := Kd.at_int HR0.out x5_1 p212 q212
      cases e212
      replace p212 := eq_true p212
      replace q212 := eq_true q212
      go_wp2
      go_roundg k1
      case measure => have := HK1.out; omega
      case rel => exact ⟨(wrap64 (x1_1 + 1)), (wrap64 (x5_1 + 1)), (by first | rfl | (simp; done) | (simp [*]; done)), (by first | rfl | (simp; done) | (simp [*]; done)), H', ⟨by have := HK1.out; omega⟩, by repeat (first | exact Drawn0.refl _ | apply Drawn0.step)⟩
     ·rw [if_neg c5] at H
      have c5b0 : ((rd l0 x5_1) == x1_1) = false := beq_eq_false_iff_ne.mpr c5
      have c5b1 : ((rd l0 x5_1) != x1_1) = true := bne_iff_ne.mpr c5
      obtain rfl := Option.some.inj H
      have p212 : 0 ≤ (x5_1 : Int) := of_decide_eq_true (by first | (with_reducible assumption) | assumption)
      have q212 : x5_1 < (l0.length : Int) := of_decide_eq_true (by first | (with_reducible assumption) | assumption)
      obtain ⟨ad212, e212, hx212_0⟩ := Kd.at_int HR0.out x5_1 p212 q212
      cases e212
      replace p212 := eq_true p212
      replace q212 := eq_true q212
      go_wp2
      go_ret
      exact ⟨by first | rfl | (simp; done) | (simp [*]; done), by repeat (first | exact Drawn0.refl _ | apply Drawn0.step)⟩
    ·rw [if_neg c4] at H
     exact absurd H (by simp)
   ·rw [if_neg c3] at H
    have c3b0 : decide (x5_1 < (l0.length : Int)) = false := decide_eq_false c3
    clear c3
    obtain rfl := Option.some.inj H
    go_wp2
    go_ret
    exact ⟨by first | rfl | (simp; done) | (simp [*]; done), by repeat (first | exact Drawn0.refl _ | apply Drawn0.step)⟩
def laws_heldIntsResult.f (k : Nat) (a0_0 : Int) (l0_1 : List Int) (a1 : Int) : Option (Int) := (laws_heldInt64S.f k l0_1 a1).bind fun t214 => (if t214 < 0 then (some (-1)) else (some t214))
set_option maxHeartbeats 8000000 in
set_option maxRecDepth 100000 in
theorem laws_heldIntsResult.calls (k : Nat) (a0_0 : Int) (A0_1 : Option Addr) (c0_1 : Nat) (l0_1 : List Int) (a1 : Int) (r : Int) (w : World) (hr0_1 : Kd.C (Kd.int .i64) w A0_1 l0_1.length l0_1) (hc0_1 : l0_1.length ≤ c0_1) (h : laws_heldIntsResult.f k a0_0 l0_1 a1 = some r) :
  Calls Try.prog 14 #[.agg #[.int .i64 a0_0, .slice A0_1 l0_1.length c0_1], .int .i64 a1] w fun e w' => e = .returned (.int .i64 r) ∧ Below w.heap.size w w' := by
 have hu28 := Try.underlying28
 have HR0_1 := Aside0.mk hr0_1
 have HC0_1 := Aside0.mk hc0_1
 clear hr0_1 hc0_1
 have HB := Aside0.mk (Below.refl w.heap.size w)
 have H : ((laws_heldInt64S.f k l0_1 a1).bind fun t214 => (if t214 < 0 then (some (-1)) else (some t214))) = some r := h
 clear h
 replace H := Option.bind_eq_some_iff.mp H
 obtain ⟨t214, A30, H⟩ := H
 try dsimp only at H
 have A3 := Aside0.mk A30
 clear A30
 by_cases c4 : t214 < 0
 ·rw [if_pos c4] at H
  have c4b0 : decide (t214 < 0) = true := decide_eq_true c4
  clear c4
  obtain rfl := Option.some.inj H
  go_enter Try.func14, Try.ntmps14
  go_wp2_with (first | ((with_reducible refine gate_dst (N := 2) rfl ?_); refine box_event ?hg (N := 2) ?hd (cs := #[.int .i64 a0_0, .slice A0_1 l0_1.length c0_1]) (t := 28) ?hr ?_; (case hd => rfl); (case hg => rfl); (case hr => first | (go_simp; done) | (go_simp; rfl)); intro gb213 hg w5 hbox hb; have n0_ := Aside0.mk (lP_ HB.out hb); have n1_ := Aside0.mk (hbox); have n3_ := Aside0.mk ((by rw [hg]; exact (below_size HB.out) : w.heap.size ≤ gb213)); clear HB; have HB := n0_; have BK213 := n1_; have GE213 := n3_; clear n0_ n1_ n3_ hb hbox hg; obtain ⟨_, _, _, _⟩ := bc2 BK213.out) | ((with_reducible refine gate_callee (f := 31) rfl ?_); refine goesA_ (some 8) rfl rfl Try.func31 (by kernel_rfl) rfl #[.slice A0_1 l0_1.length c0_1, .int .i64 a1] rfl ?_; (with_reducible refine (laws_heldInt64S.calls k _ _ l0_1 a1 t214 _ ?side1 ?side2 A3.out).mono ?_); (case side1 => repeat (first | exact (Kd.C_below HR0_1.out HB.out) | (with_reducible refine Kd.C_alloc ?_ _) | (with_reducible refine Kd.C_drewN ?_ _) | (with_reducible refine Kd.C_drew ?_))); (case side2 => exact HC0_1.out); rintro e w' ⟨rfl, ⟨nd, rfl⟩⟩; refine ⟨_, rfl, ?_⟩))
  go_ret
  exact ⟨by first | rfl | (simp [errW_none, errW_some] <;> rfl) | (simp [*, errW_none, errW_some] <;> rfl), by repeat (first | (with_reducible first | exact HB.out | apply lA1_ | apply lN_ | apply lD_ | refine lS1_ ?_ GE213.out) | exact HB.out)⟩
 ·rw [if_neg c4] at H
  have c4b0 : decide (t214 < 0) = false := decide_eq_false c4
  clear c4
  obtain rfl := Option.some.inj H
  go_enter Try.func14, Try.ntmps14
  go_wp2_with (first | ((with_reducible refine gate_dst (N := 2) rfl ?_); refine box_event ?hg (N := 2) ?hd (cs := #[.int .i64 a0_0, .slice A0_1 l0_1.length c0_1]) (t := 28) ?hr ?_; (case hd => rfl); (case hg => rfl); (case hr => first | (go_simp; done) | (go_simp; rfl)); intro gb213 hg w7 hbox hb; have n0_ := Aside0.mk (lP_ (by repeat (first | (with_reducible first | exact HB.out | apply lA1_ | apply lN_ | apply lD_) | exact HB.out)) hb); have n1_ := Aside0.mk (hbox); have n3_ := Aside0.mk ((by rw [hg]; exact (below_size (by repeat (first | (with_reducible first | exact HB.out | apply lA1_ | apply lN_ | apply lD_) | exact HB.out))) : w.heap.size ≤ gb213)); clear HB; have HB := n0_; have BK213 := n1_; have GE213 := n3_; clear n0_ n1_ n3_ hb hbox hg; obtain ⟨_, _, _, _⟩ := bc2 BK213.out) | ((with_reducible refine gate_callee (f := 31) rfl ?_); refine goesA_ (some 8) rfl rfl Try.func31 (by kernel_rfl) rfl #[.slice A0_1 l0_1.length c0_1, .int .i64 a1] rfl ?_; (with_reducible refine (laws_heldInt64S.calls k _ _ l0_1 a1 t214 _ ?side1 ?side2 A3.out).mono ?_); (case side1 => repeat (first | exact (Kd.C_below HR0_1.out HB.out) | (with_reducible refine Kd.C_alloc ?_ _) | (with_reducible refine Kd.C_drewN ?_ _) | (with_reducible refine Kd.C_drew ?_))); (case side2 => exact HC0_1.out); rintro e w' ⟨rfl, ⟨nd, rfl⟩⟩; refine ⟨_, rfl, ?_⟩))
  go_ret
  exact ⟨by first | rfl | (simp [errW_none, errW_some] <;> rfl) | (simp [*, errW_none, errW_some] <;> rfl), by repeat (first | (with_reducible first | exact HB.out | apply lA1_ | apply lN_ | apply lD_ | refine lS1_ ?_ GE213.out) | exact HB.out)⟩
def laws_FnExactDoneTalks.j0 : Nat → Bool → Int → Int → List (S77) → Int → List Int → Int → List Int → Option (Bool)
 | 0, _, _, _, _, _, _, _, _ => none
 | k + 1, x42, x216000, x216001, x216002, x227000, x227001, x238000, x238001 => if x42 = true then (some false) else ((laws_markIntsResult.f k x238000 x238001 1).bind fun bt248 => ((laws_heldIntsResult.f k x238000 bt248.2 1).bind fun t250 => (if t250 < 0 then (some false) else (if t250 = bt248.1 then ((laws_toGate.f k x216000 x216001 x216002).bind fun bt251 => ((impl_DoneTalks.f k bt251.1 bt251.2.1 bt251.2.2).bind fun bt256 => ((laws_eqIntsResult.f k bt256.1 bt256.2 x227000 x227001).bind fun t261 => (if t261 = true then ((laws_heldIntsResult.f k x238000 bt248.2 1).bind fun t262 => (if t262 < 0 then (some false) else (if t262 = bt248.1 then (some true) else (some false)))) else (some false))))) else (some false)))))
def laws_FnExactDoneTalks.f (k : Nat) (a0_0 : Int) (a0_1 : Int) (l0_2 : List (S77)) : Option (Bool) := (laws_szGate.f a0_0 a0_1 l0_2 1048576).bind fun t216 => (if t216 < 0 then (some true) else ((laws_toGate.f k a0_0 a0_1 l0_2).bind fun bt217 => ((spec_DoneTalks.f k bt217.1 bt217.2.1 bt217.2.2).bind fun bt222 => ((laws_toGate.f k a0_0 a0_1 l0_2).bind fun bt227 => ((impl_DoneTalks.f k bt227.1 bt227.2.1 bt227.2.2).bind fun bt233 => ((laws_eqIntsResult.f k bt233.1 bt233.2 bt222.1 bt222.2).bind fun t238 => (if t238 = true then ((laws_toGate.f k a0_0 a0_1 l0_2).bind fun bt239 => ((laws_eqGate.f k bt227.1 bt227.2.1 bt227.2.2 bt239.1 bt239.2.1 bt239.2.2).bind fun t244 => (if t244 = true then ((laws_markGate.f k bt227.1 bt227.2.1 bt227.2.2 1).bind fun bt245 => (if bt245.1 < 0 then (laws_FnExactDoneTalks.j0 k true a0_0 a0_1 l0_2 bt222.1 bt222.2 bt233.1 bt233.2) else ((laws_eqIntsResult.f k bt233.1 bt233.2 bt222.1 bt222.2).bind fun t247 => (laws_FnExactDoneTalks.j0 k (!t247) a0_0 a0_1 l0_2 bt222.1 bt222.2 bt233.1 bt233.2)))) else (some false)))) else (some false))))))))
set_option maxHeartbeats 8000000 in
set_option maxRecDepth 100000 in
theorem laws_FnExactDoneTalks.calls (k : Nat) (a0_0 : Int) (a0_1 : Int) (A0_2 : Option Addr) (c0_2 : Nat) (l0_2 : List (S77)) (w : World) (hr0_2 : Kd.C k77 w A0_2 l0_2.length l0_2) (hc0_2 : l0_2.length ≤ c0_2) (h : laws_FnExactDoneTalks.f k a0_0 a0_1 l0_2 = some true) :
  Calls Try.prog 3 #[.agg #[.int .i64 a0_0, .int .i64 a0_1, .slice A0_2 l0_2.length c0_2]] w fun e w' => e = .returned (.bool true) ∧ Below w.heap.size w w' := by
 have hu24 := Try.underlying24
 have hu28 := Try.underlying28
 have hu32 := Try.underlying32
 have HR0_2 := Aside0.mk hr0_2
 have HC0_2 := Aside0.mk hc0_2
 clear hr0_2 hc0_2
 have HB := Aside0.mk (Below.refl w.heap.size w)
 have H : ((laws_szGate.f a0_0 a0_1 l0_2 1048576).bind fun t216 => (if t216 < 0 then (some true) else ((laws_toGate.f k a0_0 a0_1 l0_2).bind fun bt217 => ((spec_DoneTalks.f k bt217.1 bt217.2.1 bt217.2.2).bind fun bt222 => ((laws_toGate.f k a0_0 a0_1 l0_2).bind fun bt227 => ((impl_DoneTalks.f k bt227.1 bt227.2.1 bt227.2.2).bind fun bt233 => ((laws_eqIntsResult.f k bt233.1 bt233.2 bt222.1 bt222.2).bind fun t238 => (if t238 = true then ((laws_toGate.f k a0_0 a0_1 l0_2).bind fun bt239 => ((laws_eqGate.f k bt227.1 bt227.2.1 bt227.2.2 bt239.1 bt239.2.1 bt239.2.2).bind fun t244 => (if t244 = true then ((laws_markGate.f k bt227.1 bt227.2.1 bt227.2.2 1).bind fun bt245 => (if bt245.1 < 0 then (laws_FnExactDoneTalks.j0 k true a0_0 a0_1 l0_2 bt222.1 bt222.2 bt233.1 bt233.2) else ((laws_eqIntsResult.f k bt233.1 bt233.2 bt222.1 bt222.2).bind fun t247 => (laws_FnExactDoneTalks.j0 k (!t247) a0_0 a0_1 l0_2 bt222.1 bt222.2 bt233.1 bt233.2)))) else (some false)))) else (some false))))))))) = some true := h
 clear h
 replace H := Option.bind_eq_some_iff.mp H
 obtain ⟨t216, cb, H⟩ := H
 try dsimp only at H
 have A2 := Aside0.mk cb
 clear cb
 by_cases c3 : t216 < 0
 ·rw [if_pos c3] at H
  have c3b0 : decide (t216 < 0) = true := decide_eq_true c3
  clear c3
  clear H
  go_enter Try.func3, Try.ntmps3
  go_wp2_with (first | ((with_reducible refine gate_dst (N := 1) rfl ?_); refine box_event ?hg (N := 1) ?hd (cs := #[.int .i64 a0_0, .int .i64 a0_1, .slice A0_2 l0_2.length c0_2]) (t := 24) ?hr ?_; (case hd => rfl); (case hg => rfl); (case hr => first | (go_simp; done) | (go_simp; rfl)); intro ac hg w4 hbox hb; have n0_ := Aside0.mk (lP_ HB.out hb); have n1_ := Aside0.mk (hbox); have n3_ := Aside0.mk ((by rw [hg]; exact (below_size HB.out) : w.heap.size ≤ ac)); clear HB; have HB := n0_; have a0 := n1_; have aa := n3_; clear n0_ n1_ n3_ hb hbox hg; obtain ⟨_, _, _, _, _, _⟩ := bc3 a0.out) | ((with_reducible refine gate_callee (f := 6) rfl ?_); refine goesA_ (some 13) rfl rfl Try.func6 (by kernel_rfl) rfl #[.agg #[.int .i64 a0_0, .int .i64 a0_1, .slice A0_2 l0_2.length c0_2], .int .i64 1048576] rfl ?_; (with_reducible refine (laws_szGate.calls a0_0 a0_1 _ _ l0_2 1048576 t216 _ ?side1 ?side2 A2.out).mono ?_); (case side1 => repeat (first | exact (Kd.C_below HR0_2.out HB.out) | (with_reducible refine Kd.C_alloc ?_ _) | (with_reducible refine Kd.C_drewN ?_ _) | (with_reducible refine Kd.C_drew ?_))); (case side2 => exact HC0_2.out); rintro e w6 ⟨rfl, hb⟩; refine ⟨_, rfl, ?_⟩; have n1_ := Aside0.mk (lP_ (by repeat (first | (with_reducible first | exact HB.out | refine lS1_ ?_ aa.out) | exact HB.out)) hb); clear HB; have HB := n1_; clear n1_; (try clear hb); (try clear hb2); (try clear hk); (try clear hi)))
  go_ret
  exact ⟨by first | rfl | (rw [hr_.out]; first | done | rfl) | (simp [errW_none, errW_some] <;> rfl) | (simp [*, errW_none, errW_some] <;> rfl), by repeat (first | (with_reducible first | exact HB.out | apply lA1_ | apply lN_ | apply lD_ | refine lS1_ ?_ aa.out) | exact HB.out)⟩
 ·rw [if_neg c3] at H
  have c3b0 : decide (t216 < 0) = false := decide_eq_false c3
  clear c3
  replace H := Option.bind_eq_some_iff.mp H
  obtain ⟨⟨t217, t218, t219⟩, bl, H⟩ := H
  try dsimp only at H
  have A7 := Aside0.mk bl
  clear bl
  replace H := Option.bind_eq_some_iff.mp H
  obtain ⟨⟨t222, t223⟩, cc, H⟩ := H
  try dsimp only at H
  have A8 := Aside0.mk cc
  clear cc
  replace H := Option.bind_eq_some_iff.mp H
  obtain ⟨⟨t227, t228, t229⟩, cd, H⟩ := H
  try dsimp only at H
  have A9 := Aside0.mk cd
  clear cd
  replace H := Option.bind_eq_some_iff.mp H
  obtain ⟨⟨t233, t234⟩, bm, H⟩ := H
  try dsimp only at H
  have cg := Aside0.mk bm
  clear bm
  replace H := Option.bind_eq_some_iff.mp H
  obtain ⟨t238, bn, H⟩ := H
  try dsimp only at H
  have ch := Aside0.mk bn
  clear bn
  by_cases c12 : t238 = true
  ·subst c12
   rw [if_pos rfl] at H
   replace H := Option.bind_eq_some_iff.mp H
   obtain ⟨⟨t239, t240, t241⟩, bo, H⟩ := H
   try dsimp only at H
   have ci := Aside0.mk bo
   clear bo
   replace H := Option.bind_eq_some_iff.mp H
   obtain ⟨t244, bp, H⟩ := H
   try dsimp only at H
   have cj := Aside0.mk bp
   clear bp
   by_cases c15 : t244 = true
   ·subst c15
    rw [if_pos rfl] at H
    replace H := Option.bind_eq_some_iff.mp H
    obtain ⟨⟨t245, t246⟩, bq, H⟩ := H
    try dsimp only at H
    have ck := Aside0.mk bq
    clear bq
    have bh := Aside0.mk H
    clear H
    go_enter Try.func3, Try.ntmps3
    try go_wp2_with (first | ((with_reducible refine gate_dst (N := 1) rfl ?_); refine box_event ?hg (N := 1) ?hd (cs := #[.int .i64 a0_0, .int .i64 a0_1, .slice A0_2 l0_2.length c0_2]) (t := 24) ?hr ?_; (case hd => rfl); (case hg => rfl); (case hr => first | (go_simp; done) | (go_simp; rfl)); intro ac hg w18 hbox hb; have n0_ := Aside0.mk (lP_ HB.out hb); have n1_ := Aside0.mk (hbox); have n3_ := Aside0.mk ((by rw [hg]; exact (below_size HB.out) : w.heap.size ≤ ac)); clear HB; have HB := n0_; have a0 := n1_; have aa := n3_; clear n0_ n1_ n3_ hb hbox hg; obtain ⟨_, _, _, _, _, _⟩ := bc3 a0.out) | ((with_reducible refine gate_callee (f := 6) rfl ?_); refine goesA_ (some 13) rfl rfl Try.func6 (by kernel_rfl) rfl #[.agg #[.int .i64 a0_0, .int .i64 a0_1, .slice A0_2 l0_2.length c0_2], .int .i64 1048576] rfl ?_; (with_reducible refine (laws_szGate.calls a0_0 a0_1 _ _ l0_2 1048576 t216 _ ?side1 ?side2 A2.out).mono ?_); (case side1 => repeat (first | exact (Kd.C_below HR0_2.out HB.out) | (with_reducible refine Kd.C_alloc ?_ _) | (with_reducible refine Kd.C_drewN ?_ _) | (with_reducible refine Kd.C_drew ?_))); (case side2 => exact HC0_2.out); rintro e w20 ⟨rfl, hb⟩; refine ⟨_, rfl, ?_⟩; have n0_ := Aside0.mk (bB_ a0.out hb); have n1_ := Aside0.mk (lP_ HB.out hb); clear a0 HB; have a0 := n0_; have HB := n1_; clear n0_ n1_; (try clear hb); (try clear hb2); (try clear hk); (try clear hi); obtain ⟨_, _, _, _, _, _⟩ := bc3 a0.out) | ((with_reducible refine gate_callee (f := 8) rfl ?_); refine goesA_ (some 17) rfl rfl Try.func8 (by kernel_rfl) rfl #[.agg #[.int .i64 a0_0, .int .i64 a0_1, .slice A0_2 l0_2.length c0_2]] rfl ?_; (with_reducible refine (laws_toGate.calls k a0_0 a0_1 _ _ l0_2 t217 t218 t219 _ ?side1 ?side2 A7.out).mono ?_); (case side1 => repeat (first | exact (Kd.C_below HR0_2.out HB.out) | (with_reducible refine Kd.C_alloc ?_ _) | (with_reducible refine Kd.C_drewN ?_ _) | (with_reducible refine Kd.C_drew ?_))); (case side2 => exact HC0_2.out); rintro e w22 ⟨v220, rfl, ho0, hb⟩; refine ⟨_, rfl, ?_⟩; have n0_ := Aside0.mk (Kd.R_lower ho0 (below_size HB.out)); have n1_ := Aside0.mk (bB_ a0.out hb); have n2_ := Aside0.mk (lP_ HB.out hb); clear a0 HB; have a6 := n0_; have a0 := n1_; have HB := n2_; clear n0_ n1_ n2_; (try clear hb); (try clear hb2); (try clear hk); (try clear hi); (try clear ho0); obtain ⟨bi, bj, eo23⟩ := Kd.R_slice a6.out; subst eo23) | ((with_reducible refine gate_callee (f := 7) rfl ?_); refine goesA_ (some 18) rfl rfl Try.func7 (by kernel_rfl) rfl #[.agg #[.int .i64 t217, .int .i64 t218, .slice bi t219.length bj]] rfl ?_; (with_reducible refine (spec_DoneTalks.calls k t217 t218 _ _ t219 t222 t223 _ ?side1 ?side2 A8.out).mono ?_); (case side1 => repeat (first | exact (Kd.R_reads' a6.out).2.2 | (with_reducible refine Kd.C_alloc ?_ _) | (with_reducible refine Kd.C_drewN ?_ _) | (with_reducible refine Kd.C_drew ?_))); (case side2 => exact (Kd.R_reads' a6.out).2.1); rintro e w24 ⟨v224, rfl, ho0, hb⟩; refine ⟨_, rfl, ?_⟩; have n0_ := Aside0.mk (Kd.R_below a6.out hb); have n1_ := Aside0.mk (Kd.R_lower ho0 (below_size HB.out)); have n2_ := Aside0.mk (bB_ a0.out hb); have n3_ := Aside0.mk (lP_ HB.out hb); clear a6 a0 HB; have a6 := n0_; have a7 := n1_; have a0 := n2_; have HB := n3_; clear n0_ n1_ n2_ n3_; (try clear hb); (try clear hb2); (try clear hk); (try clear hi); (try clear ho0)) | ((with_reducible refine gate_dst (N := 4) rfl ?_); refine box_event ?hg (N := 4) ?hd (cs := #[.int .i64 0, .slice none 0 0]) (t := 28) ?hr ?_; (case hd => rfl); (case hg => rfl); (case hr => first | (go_simp; done) | (go_simp; rfl)); intro ah hg w25 hbox hb; have n0_ := Aside0.mk (Kd.R_below a6.out hb); have n1_ := Aside0.mk (Kd.R_below a7.out hb); have n2_ := Aside0.mk (bB_ a0.out hb); have n3_ := Aside0.mk (lP_ HB.out hb); have n4_ := Aside0.mk (hbox); have n6_ := Aside0.mk ((by rw [hg]; exact (below_size HB.out) : w.heap.size ≤ ah)); have n7_ := Aside0.mk ((by rw [hg]; exact Nat.ne_of_lt (blk_lt a0.out) : ac ≠ ah)); have n8_ := Aside0.mk n7_.out.symm; clear a6 a7 a0 HB; have a6 := n0_; have a7 := n1_; have a0 := n2_; have HB := n3_; have a1 := n4_; have ad := n6_; have aq := n7_; have ay := n8_; clear n0_ n1_ n2_ n3_ n4_ n6_ n7_ n8_ hb hbox hg; have cr := ay.out; have ct := aq.out; obtain ⟨_, _, _, _⟩ := bc2 a1.out; obtain ⟨ap, ak, eo28⟩ := Kd.R_slice a7.out; subst eo28; obtain ⟨_, _, _, _, _, _⟩ := bc3 a0.out) | ((with_reducible refine gate_callee (f := 8) rfl ?_); refine goesA_ (some 20) rfl rfl Try.func8 (by kernel_rfl) rfl #[.agg #[.int .i64 a0_0, .int .i64 a0_1, .slice A0_2 l0_2.length c0_2]] rfl ?_; (with_reducible refine (laws_toGate.calls k a0_0 a0_1 _ _ l0_2 t227 t228 t229 _ ?side1 ?side2 A9.out).mono ?_); (case side1 => exact Kd.C_below HR0_2.out (by repeat (first | (with_reducible first | exact HB.out | refine lS1_ ?_ aa.out | refine lS1_ ?_ ad.out) | exact HB.out))); (case side2 => exact HC0_2.out); rintro e w30 ⟨v230, rfl, ho0, hb⟩; refine ⟨_, rfl, ?_⟩; have n0_ := Aside0.mk (Kd.R_elder' (Kd.R_mono (rfar2 (g := ah) (Kd.R_types a6.out a1.out (by decide)) (fun _ hk => hk.2)) (fun _ h_ => h_.1)) (Kd.R_base ho0) hb); have n1_ := Aside0.mk (Kd.R_below (Kd.R_mono (rfar2 (g := ah) (Kd.R_types a7.out a1.out (by decide)) (fun _ hk => hk.2)) (fun _ h_ => h_.1)) hb); have n2_ := Aside0.mk (Kd.R_lower (Kd.R_new' ho0 (Kd.R_lt (Kd.R_mono (rfar2 (g := ah) (Kd.R_types a6.out a1.out (by decide)) (fun _ hk => hk.2)) (fun _ h_ => h_.1)))) (below_size (by repeat (first | (with_reducible first | exact HB.out | refine lS1_ ?_ aa.out | refine lS1_ ?_ ad.out) | exact HB.out)))); have n3_ := Aside0.mk (bB_ (g := ac) (o := .cells #[.int .i64 a0_0, .int .i64 a0_1, .slice A0_2 l0_2.length c0_2] 24 (0, 0)) (by (iterate 2 (refine bF_ ?_ aq.out _)); exact a0.out) hb); have n4_ := Aside0.mk (bB_ (g := ah) (o := .cells #[.int .i64 t222, .slice ap t223.length ak] 28 (0, 0)) (by apply fill2; exact a1.out) hb); have n5_ := Aside0.mk (lP_ (by repeat (first | (with_reducible first | exact HB.out | refine lS1_ ?_ aa.out | refine lS1_ ?_ ad.out) | exact HB.out)) hb); clear a6 a7 a0 a1 HB; have a6 := n0_; have a7 := n1_; have a5 := n2_; have a0 := n3_; have a1 := n4_; have HB := n5_; clear n0_ n1_ n2_ n3_ n4_ n5_; (try clear hb); (try clear hb2); (try clear hk); (try clear hi); (try clear ho0)) | ((with_reducible refine gate_dst (N := 5) rfl ?_); refine box_event ?hg (N := 5) ?hd (cs := #[.int .i64 0, .int .i64 0, .slice none 0 0]) (t := 32) ?hr ?_; (case hd => rfl); (case hg => rfl); (case hr => first | (go_simp; done) | (go_simp; rfl)); intro ab hg w31 hbox hb; have n0_ := Aside0.mk (Kd.R_below a6.out hb); have n1_ := Aside0.mk (Kd.R_below a7.out hb); have n2_ := Aside0.mk (Kd.R_below a5.out hb); have n3_ := Aside0.mk (bB_ a0.out hb); have n4_ := Aside0.mk (bB_ a1.out hb); have n5_ := Aside0.mk (lP_ HB.out hb); have n6_ := Aside0.mk (hbox); have n8_ := Aside0.mk ((by rw [hg]; exact (below_size HB.out) : w.heap.size ≤ ab)); have n9_ := Aside0.mk ((by rw [hg]; exact Nat.ne_of_lt (blk_lt a0.out) : ac ≠ ab)); have n10_ := Aside0.mk n9_.out.symm; have n11_ := Aside0.mk ((by rw [hg]; exact Nat.ne_of_lt (blk_lt a1.out) : ah ≠ ab)); have n12_ := Aside0.mk n11_.out.symm; clear a6 a7 a5 a0 a1 HB; have a6 := n0_; have a7 := n1_; have a5 := n2_; have a0 := n3_; have a1 := n4_; have HB := n5_; have a3 := n6_; have aj := n8_; have az := n9_; have b5 := n10_; have ar := n11_; have b0 := n12_; clear n0_ n1_ n2_ n3_ n4_ n5_ n6_ n8_ n9_ n10_ n11_ n12_ hb hbox hg; have cu := b5.out; have cv := az.out; have cw := b0.out; have cx := ar.out; obtain ⟨_, _, _, _, _, _⟩ := bc3 a3.out; obtain ⟨ao, al, eo35⟩ := Kd.R_slice a5.out; subst eo35) | ((with_reducible refine gate_callee (f := 9) rfl ?_); refine goesA_ (some 22) rfl rfl Try.func9 (by kernel_rfl) rfl #[.agg #[.int .i64 t227, .int .i64 t228, .slice ao t229.length al]] rfl ?_; (with_reducible refine (impl_DoneTalks.calls k t227 t228 _ _ t229 t233 t234 _ ?side1 ?side2 cg.out).mono ?_); (case side1 => refine (Kd.R_reads' (e := 58) (base := w.heap.size) (ok := fun k_ => (True ∧ some k_ ≠ (.slice bi t219.length bj : Value).ownBlock)) (n := t229.length) (c := al) ?_).2.2; exact (Kd.R_mono (rfar3 (g := ab) (Kd.R_types a5.out a3.out (by decide)) (fun _ hk => hk.2)) (fun _ h_ => h_.1))); (case side2 => exact (Kd.R_reads' a5.out).2.1); rintro e w36 ⟨v235, rfl, ho0, hb⟩; refine ⟨_, rfl, ?_⟩; have n0_ := Aside0.mk (Kd.R_below (Kd.R_mono (rfar3 (g := ab) (Kd.R_types a6.out a3.out (by decide)) (fun _ hk => hk.2)) (fun _ h_ => h_.1)) hb); have n1_ := Aside0.mk (Kd.R_elder' (Kd.R_mono (rfar3 (g := ab) (Kd.R_types a7.out a3.out (by decide)) (fun _ hk => hk.2)) (fun _ h_ => h_.1)) (Kd.R_base ho0) hb); have n2_ := Aside0.mk (Kd.R_below (Kd.R_mono (rfar3 (g := ab) (Kd.R_types a5.out a3.out (by decide)) (fun _ hk => hk.2)) (fun _ h_ => h_.1)) hb); have n3_ := Aside0.mk (Kd.R_lower (Kd.R_new' ho0 (Kd.R_lt (Kd.R_mono (rfar3 (g := ab) (Kd.R_types a7.out a3.out (by decide)) (fun _ hk => hk.2)) (fun _ h_ => h_.1)))) (below_size (by repeat (first | (with_reducible first | exact HB.out | refine lS1_ ?_ aa.out | refine lS1_ ?_ ad.out | refine lS1_ ?_ aj.out) | exact HB.out)))); have n4_ := Aside0.mk (bB_ (g := ac) (o := .cells #[.int .i64 a0_0, .int .i64 a0_1, .slice A0_2 l0_2.length c0_2] 24 (0, 0)) (by (iterate 3 (refine bF_ ?_ az.out _)); exact a0.out) hb); have n5_ := Aside0.mk (bB_ (g := ah) (o := .cells #[.int .i64 t222, .slice ap t223.length ak] 28 (0, 0)) (by (iterate 3 (refine bF_ ?_ ar.out _)); exact a1.out) hb); have n6_ := Aside0.mk (bB_ (g := ab) (o := .cells #[.int .i64 t227, .int .i64 t228, .slice ao t229.length al] 32 (0, 0)) (by apply fill3; exact a3.out) hb); have n7_ := Aside0.mk (lP_ (by repeat (first | (with_reducible first | exact HB.out | refine lS1_ ?_ aa.out | refine lS1_ ?_ ad.out | refine lS1_ ?_ aj.out) | exact HB.out)) hb); clear a6 a7 a5 a0 a1 a3 HB; have a6 := n0_; have a7 := n1_; have a5 := n2_; have a9 := n3_; have a0 := n4_; have a1 := n5_; have a3 := n6_; have HB := n7_; clear n0_ n1_ n2_ n3_ n4_ n5_ n6_ n7_; (try clear hb); (try clear hb2); (try clear hk); (try clear hi); (try clear ho0)) | ((with_reducible refine gate_dst (N := 6) rfl ?_); refine box_event ?hg (N := 6) ?hd (cs := #[.int .i64 0, .slice none 0 0]) (t := 28) ?hr ?_; (case hd => rfl); (case hg => rfl); (case hr => first | (go_simp; done) | (go_simp; rfl)); intro ae hg w37 hbox hb; have n0_ := Aside0.mk (Kd.R_below a6.out hb); have n1_ := Aside0.mk (Kd.R_below a7.out hb); have n2_ := Aside0.mk (Kd.R_below a5.out hb); have n3_ := Aside0.mk (Kd.R_below a9.out hb); have n4_ := Aside0.mk (bB_ a0.out hb); have n5_ := Aside0.mk (bB_ a1.out hb); have n6_ := Aside0.mk (bB_ a3.out hb); have n7_ := Aside0.mk (lP_ HB.out hb); have n8_ := Aside0.mk (hbox); have n10_ := Aside0.mk ((by rw [hg]; exact (below_size HB.out) : w.heap.size ≤ ae)); have n11_ := Aside0.mk ((by rw [hg]; exact Nat.ne_of_lt (blk_lt a0.out) : ac ≠ ae)); have n12_ := Aside0.mk n11_.out.symm; have n13_ := Aside0.mk ((by rw [hg]; exact Nat.ne_of_lt (blk_lt a1.out) : ah ≠ ae)); have n14_ := Aside0.mk n13_.out.symm; have n15_ := Aside0.mk ((by rw [hg]; exact Nat.ne_of_lt (blk_lt a3.out) : ab ≠ ae)); have n16_ := Aside0.mk n15_.out.symm; clear a6 a7 a5 a9 a0 a1 a3 HB; have a6 := n0_; have a7 := n1_; have a5 := n2_; have a9 := n3_; have a0 := n4_; have a1 := n5_; have a3 := n6_; have HB := n7_; have a4 := n8_; have am := n10_; have au := n11_; have b1 := n12_; have av := n13_; have b2 := n14_; have aw := n15_; have b3 := n16_; clear n0_ n1_ n2_ n3_ n4_ n5_ n6_ n7_ n8_ n10_ n11_ n12_ n13_ n14_ n15_ n16_ hb hbox hg; have cy := b1.out; have cz := au.out; have d0 := b2.out; have d1 := av.out; have d2 := b3.out; have d3 := aw.out; obtain ⟨_, _, _, _⟩ := bc2 a4.out; obtain ⟨ai, ag, eo42⟩ := Kd.R_slice a9.out; subst eo42; obtain ⟨_, _, _, _⟩ := bc2 a1.out) | ((with_reducible refine gate_callee (f := 10) rfl ?_); refine goesA_ (some 25) rfl rfl Try.func10 (by kernel_rfl) rfl #[.agg #[.int .i64 t233, .slice ai t234.length ag], .agg #[.int .i64 t222, .slice ap t223.length ak]] rfl ?_; (with_reducible refine (laws_eqIntsResult.calls k t233 _ _ t234 t222 _ _ t223 true _ ?side1 ?side2 ?side3 ?side4 ch.out).mono ?_); (case side1 => refine (Kd.R_reads' (e := 2) (base := w.heap.size) (ok := fun k_ => (True ∧ some k_ ≠ (.slice ap t223.length ak : Value).ownBlock)) (n := t234.length) (c := ag) ?_).2.2; exact (Kd.R_mono (rfar2 (g := ae) (Kd.R_types a9.out a4.out (by decide)) (fun _ hk => hk.2)) (fun _ h_ => h_.1))); (case side2 => exact (Kd.R_reads' a9.out).2.1); (case side3 => refine (Kd.R_reads' (e := 2) (base := w.heap.size) (ok := fun k_ => (True ∧ some k_ ≠ (.slice ai t234.length ag : Value).ownBlock)) (n := t223.length) (c := ak) ?_).2.2; exact (Kd.R_mono (rfar2 (g := ae) (Kd.R_types a7.out a4.out (by decide)) (fun _ hk => hk.2)) (fun _ h_ => h_.1))); (case side4 => exact (Kd.R_reads' a7.out).2.1); rintro e w44 ⟨rfl, hb⟩; refine ⟨_, rfl, ?_⟩; have n0_ := Aside0.mk (Kd.R_below (Kd.R_mono (rfar2 (g := ae) (Kd.R_types a6.out a4.out (by decide)) (fun _ hk => hk.2)) (fun _ h_ => h_.1)) hb); have n1_ := Aside0.mk (Kd.R_below (Kd.R_mono (rfar2 (g := ae) (Kd.R_types a7.out a4.out (by decide)) (fun _ hk => hk.2)) (fun _ h_ => h_.1)) hb); have n2_ := Aside0.mk (Kd.R_below (Kd.R_mono (rfar2 (g := ae) (Kd.R_types a5.out a4.out (by decide)) (fun _ hk => hk.2)) (fun _ h_ => h_.1)) hb); have n3_ := Aside0.mk (Kd.R_below (Kd.R_mono (rfar2 (g := ae) (Kd.R_types a9.out a4.out (by decide)) (fun _ hk => hk.2)) (fun _ h_ => h_.1)) hb); have n4_ := Aside0.mk (bB_ (g := ac) (o := .cells #[.int .i64 a0_0, .int .i64 a0_1, .slice A0_2 l0_2.length c0_2] 24 (0, 0)) (by (iterate 2 (refine bF_ ?_ au.out _)); exact a0.out) hb); have n5_ := Aside0.mk (bB_ (g := ah) (o := .cells #[.int .i64 t222, .slice ap t223.length ak] 28 (0, 0)) (by (iterate 2 (refine bF_ ?_ av.out _)); exact a1.out) hb); have n6_ := Aside0.mk (bB_ (g := ab) (o := .cells #[.int .i64 t227, .int .i64 t228, .slice ao t229.length al] 32 (0, 0)) (by (iterate 2 (refine bF_ ?_ aw.out _)); exact a3.out) hb); have n7_ := Aside0.mk (bB_ (g := ae) (o := .cells #[.int .i64 t233, .slice ai t234.length ag] 28 (0, 0)) (by apply fill2; exact a4.out) hb); have n8_ := Aside0.mk (lP_ (by repeat (first | (with_reducible first | exact HB.out | refine lS1_ ?_ aa.out | refine lS1_ ?_ ad.out | refine lS1_ ?_ aj.out | refine lS1_ ?_ am.out) | exact HB.out)) hb); clear a6 a7 a5 a9 a0 a1 a3 a4 HB; have a6 := n0_; have a7 := n1_; have a5 := n2_; have a9 := n3_; have a0 := n4_; have a1 := n5_; have a3 := n6_; have a4 := n7_; have HB := n8_; clear n0_ n1_ n2_ n3_ n4_ n5_ n6_ n7_ n8_; (try clear hb); (try clear hb2); (try clear hk); (try clear hi)))
    have n0_ := Aside0.mk (rD_ a6.out)
    have n1_ := Aside0.mk (rD_ a7.out)
    have n2_ := Aside0.mk (rD_ a5.out)
    have n3_ := Aside0.mk (rD_ a9.out)
    have n4_ := Aside0.mk (bD_ a0.out)
    have n5_ := Aside0.mk (bD_ a1.out)
    have n6_ := Aside0.mk (bD_ a3.out)
    have n7_ := Aside0.mk (bD_ a4.out)
    have n8_ := Aside0.mk (lD_ HB.out)
    clear a6
    clear a7
    clear a5
    clear a9
    clear a0
    clear a1
    clear a3
    clear a4
    clear HB
    have a6 := n0_
    have a7 := n1_
    have a5 := n2_
    have a9 := n3_
    have a0 := n4_
    have a1 := n5_
    have a3 := n6_
    have a4 := n7_
    have HB := n8_
    clear n0_ n1_ n2_ n3_ n4_ n5_ n6_ n7_ n8_
    refine start_ (n := 5) (S := fun w' => w'.cell? ⟨ab, 0, none⟩ = some (.int .i64 t227) ∧ w'.cell? ⟨ab, 1, none⟩ = some (.int .i64 t228) ∧ w'.cell? ⟨ab, 2, none⟩ = some (.slice ao t229.length al) ∧ w'.cell? ⟨ac, 0, none⟩ = some (.int .i64 a0_0) ∧ w'.cell? ⟨ac, 1, none⟩ = some (.int .i64 a0_1) ∧ w'.cell? ⟨ac, 2, none⟩ = some (.slice A0_2 l0_2.length c0_2)) (ds := []) #[false, false, false, false, false] (by kernel_rfl) rfl rfl ⟨(blk_cell a3.out 0).trans rfl, (blk_cell a3.out 1).trans rfl, (blk_cell a3.out 2).trans rfl, (blk_cell a0.out 0).trans rfl, (blk_cell a0.out 1).trans rfl, (blk_cell a0.out 2).trans rfl⟩ (fun hHeld => ?_)
    generalize w44.drew = w45 at a6 a7 a5 a9 a0 a1 a3 a4 HB hHeld ⊢
    refine take_ (i := 0) (N := some 27) (v := ?_) (a' := ?_) #[true, false, false, false, false] rfl rfl (by kernel_rfl) (fun _ _ _ h => h) (Or.inl ⟨by rfl, ?_⟩) hHeld ?_ ?_
    rotate_left
    ·rintro w' ⟨s0, s1, s2, s3, s4, s5⟩
     go_simp
     with_reducible rfl
    rotate_left
    ·simp only [Act.put, lA_, lZ_, lS_, i64_w, i32_w]
     rfl
    refine take_ (i := 1) (N := some 28) (v := ?_) (a' := ?_) #[true, true, false, false, false] rfl rfl (by kernel_rfl) (fun _ _ _ h => h) (Or.inl ⟨by rfl, ?_⟩) hHeld ?_ ?_
    rotate_left
    ·rintro w' ⟨s0, s1, s2, s3, s4, s5⟩
     go_simp
     with_reducible rfl
    rotate_left
    ·simp only [Act.put, lA_, lZ_, lS_, i64_w, i32_w]
     rfl
    refine one_ (i := 2) (N := some 29) #[true, true, true, false, false] rfl rfl (by kernel_rfl) (by decide) (fun K hK => ?_)
    refine goes_ Try.func8 (by kernel_rfl) rfl #[.agg #[.int .i64 a0_0, .int .i64 a0_1, .slice A0_2 l0_2.length c0_2]] (by rfl) rfl rfl (by (try simp only [List.map_toArray, List.map_cons, List.map_nil]); first | done | rfl | (simp only [List.length_drop, List.length_take]; rfl)) ?_
    with_reducible refine (laws_toGate.calls k a0_0 a0_1 _ _ l0_2 t239 t240 t241 _ ?side1 ?side2 ci.out).mono ?_
    (case side1 => repeat (first | exact (Kd.C_below HR0_2.out HB.out) | (with_reducible refine Kd.C_alloc ?_ _) | (with_reducible refine Kd.C_drewN ?_ _) | (with_reducible refine Kd.C_drew ?_)))
    (case side2 => exact HC0_2.out)
    rintro e w46 ⟨v242, rfl, ho0, hb⟩
    refine ⟨_, rfl, ?_⟩
    have n0_ := Aside0.mk (Kd.R_elder' (by (with_reducible repeat first | apply rA_ | apply rN_ | apply rD_); exact a6.out) (Kd.R_base ho0) hb)
    have n1_ := Aside0.mk (Kd.R_below (by (with_reducible repeat first | apply rA_ | apply rN_ | apply rD_); exact a7.out) hb)
    have n2_ := Aside0.mk (Kd.R_elder' (by (with_reducible repeat first | apply rA_ | apply rN_ | apply rD_); exact a5.out) (Kd.R_base ho0) hb)
    have n3_ := Aside0.mk (Kd.R_below (by (with_reducible repeat first | apply rA_ | apply rN_ | apply rD_); exact a9.out) hb)
    have n4_ := Aside0.mk (Kd.R_lower (Kd.R_new' (Kd.R_new' ho0 (Kd.R_lt (by (with_reducible repeat first | apply rA_ | apply rN_ | apply rD_); exact a6.out))) (Kd.R_lt (by (with_reducible repeat first | apply rA_ | apply rN_ | apply rD_); exact a5.out))) (below_size (by repeat (first | (with_reducible first | exact HB.out | apply lA1_ | apply lN_ | apply lD_ | refine lS1_ ?_ aa.out | refine lS1_ ?_ ad.out | refine lS1_ ?_ aj.out | refine lS1_ ?_ am.out) | exact HB.out))))
    have n5_ := Aside0.mk (bB_ (g := ac) (o := .cells #[.int .i64 a0_0, .int .i64 a0_1, .slice A0_2 l0_2.length c0_2] 24 (0, 0)) (by (with_reducible repeat first | apply bN_ | apply bD_ | apply bA_); exact a0.out) hb)
    have n6_ := Aside0.mk (bB_ (g := ah) (o := .cells #[.int .i64 t222, .slice ap t223.length ak] 28 (0, 0)) (by (with_reducible repeat first | apply bN_ | apply bD_ | apply bA_); exact a1.out) hb)
    have n7_ := Aside0.mk (bB_ (g := ab) (o := .cells #[.int .i64 t227, .int .i64 t228, .slice ao t229.length al] 32 (0, 0)) (by (with_reducible repeat first | apply bN_ | apply bD_ | apply bA_); exact a3.out) hb)
    have n8_ := Aside0.mk (bB_ (g := ae) (o := .cells #[.int .i64 t233, .slice ai t234.length ag] 28 (0, 0)) (by (with_reducible repeat first | apply bN_ | apply bD_ | apply bA_); exact a4.out) hb)
    have n9_ := Aside0.mk (lP_ (by repeat (first | (with_reducible first | exact HB.out | apply lA1_ | apply lN_ | apply lD_ | refine lS1_ ?_ aa.out | refine lS1_ ?_ ad.out | refine lS1_ ?_ aj.out | refine lS1_ ?_ am.out) | exact HB.out)) hb)
    clear a6
    clear a7
    clear a5
    clear a9
    clear a0
    clear a1
    clear a3
    clear a4
    clear HB
    have a6 := n0_
    have a7 := n1_
    have a5 := n2_
    have a9 := n3_
    have an := n4_
    have a0 := n5_
    have a1 := n6_
    have a3 := n7_
    have a4 := n8_
    have HB := n9_
    clear n0_ n1_ n2_ n3_ n4_ n5_ n6_ n7_ n8_ n9_
    (try clear hb)
    (try clear hb2)
    (try clear hk)
    (try clear hi)
    (try clear ho0)
    obtain ⟨br, bs, eo47⟩ := Kd.R_slice an.out
    (first | subst eo47 | (injection eo47 with f1_ f2_ f3_; have f4_ := f1_.symm; have f5_ := f3_.symm; clear f1_ f2_ f3_; subst f4_; subst f5_))
    refine hK.out _ _ ⟨(blk_cell a3.out 0).trans rfl, (blk_cell a3.out 1).trans rfl, (blk_cell a3.out 2).trans rfl, (blk_cell a0.out 0).trans rfl, (blk_cell a0.out 1).trans rfl, (blk_cell a0.out 2).trans rfl⟩ (fun hHeld => ?_)
    clear hK K
    refine norm_ (a' := ?_) ?_ ?_
    rotate_left
    ·show Act.put _ (some 29) _ = _
     simp only [Act.put, lA_, lZ_, lS_, i64_w, i32_w]
     rfl
    refine one_ (i := 3) (N := some 30) #[true, true, true, true, false] rfl rfl (by kernel_rfl) (by decide) (fun K hK => ?_)
    refine goes_ Try.func11 (by kernel_rfl) rfl #[.agg #[.int .i64 t227, .int .i64 t228, .slice ao t229.length al], .agg #[.int .i64 t239, .int .i64 t240, .slice br t241.length bs]] (by rfl) rfl rfl (by (try simp only [List.map_toArray, List.map_cons, List.map_nil]); first | done | rfl | (simp only [List.length_drop, List.length_take]; rfl)) ?_
    with_reducible refine (laws_eqGate.calls k t227 t228 _ _ t229 t239 t240 _ _ t241 true _ ?side1 ?side2 ?side3 ?side4 cj.out).mono ?_
    (case side1 => repeat (first | exact (Kd.R_reads' a5.out).2.2 | (with_reducible refine Kd.C_alloc ?_ _) | (with_reducible refine Kd.C_drewN ?_ _) | (with_reducible refine Kd.C_drew ?_)))
    (case side2 => exact (Kd.R_reads' a5.out).2.1)
    (case side3 => repeat (first | exact (Kd.R_reads' an.out).2.2 | (with_reducible refine Kd.C_alloc ?_ _) | (with_reducible refine Kd.C_drewN ?_ _) | (with_reducible refine Kd.C_drew ?_)))
    (case side4 => exact (Kd.R_reads' an.out).2.1)
    rintro e w48 ⟨rfl, hb⟩
    refine ⟨_, rfl, ?_⟩
    have n0_ := Aside0.mk (Kd.R_below (by (with_reducible repeat first | apply rA_ | apply rN_ | apply rD_); exact a6.out) hb)
    have n1_ := Aside0.mk (Kd.R_below (by (with_reducible repeat first | apply rA_ | apply rN_ | apply rD_); exact a7.out) hb)
    have n2_ := Aside0.mk (Kd.R_below (by (with_reducible repeat first | apply rA_ | apply rN_ | apply rD_); exact a5.out) hb)
    have n3_ := Aside0.mk (Kd.R_below (by (with_reducible repeat first | apply rA_ | apply rN_ | apply rD_); exact a9.out) hb)
    have n4_ := Aside0.mk (Kd.R_below (by (with_reducible repeat first | apply rA_ | apply rN_ | apply rD_); exact an.out) hb)
    have n5_ := Aside0.mk (bB_ (g := ac) (o := .cells #[.int .i64 a0_0, .int .i64 a0_1, .slice A0_2 l0_2.length c0_2] 24 (0, 0)) (by (with_reducible repeat first | apply bN_ | apply bD_ | apply bA_); exact a0.out) hb)
    have n6_ := Aside0.mk (bB_ (g := ah) (o := .cells #[.int .i64 t222, .slice ap t223.length ak] 28 (0, 0)) (by (with_reducible repeat first | apply bN_ | apply bD_ | apply bA_); exact a1.out) hb)
    have n7_ := Aside0.mk (bB_ (g := ab) (o := .cells #[.int .i64 t227, .int .i64 t228, .slice ao t229.length al] 32 (0, 0)) (by (with_reducible repeat first | apply bN_ | apply bD_ | apply bA_); exact a3.out) hb)
    have n8_ := Aside0.mk (bB_ (g := ae) (o := .cells #[.int .i64 t233, .slice ai t234.length ag] 28 (0, 0)) (by (with_reducible repeat first | apply bN_ | apply bD_ | apply bA_); exact a4.out) hb)
    have n9_ := Aside0.mk (lP_ (by repeat (first | (with_reducible first | exact HB.out | apply lA1_ | apply lN_ | apply lD_ | refine lS1_ ?_ aa.out | refine lS1_ ?_ ad.out | refine lS1_ ?_ aj.out | refine lS1_ ?_ am.out) | exact HB.out)) hb)
    clear a6
    clear a7
    clear a5
    clear a9
    clear an
    clear a0
    clear a1
    clear a3
    clear a4
    clear HB
    have a6 := n0_
    have a7 := n1_
    have a5 := n2_
    have a9 := n3_
    have an := n4_
    have a0 := n5_
    have a1 := n6_
    have a3 := n7_
    have a4 := n8_
    have HB := n9_
    clear n0_ n1_ n2_ n3_ n4_ n5_ n6_ n7_ n8_ n9_
    (try clear hb)
    (try clear hb2)
    (try clear hk)
    (try clear hi)
    refine hK.out _ _ ⟨(blk_cell a3.out 0).trans rfl, (blk_cell a3.out 1).trans rfl, (blk_cell a3.out 2).trans rfl, (blk_cell a0.out 0).trans rfl, (blk_cell a0.out 1).trans rfl, (blk_cell a0.out 2).trans rfl⟩ (fun hHeld => ?_)
    clear hK K
    refine norm_ (a' := ?_) ?_ ?_
    rotate_left
    ·show Act.put _ (some 30) _ = _
     simp only [Act.put, lA_, lZ_, lS_, i64_w, i32_w]
     rfl
    refine pure_ (i := 4) (N := some 31) (v := ?_) (a' := ?_) #[true, true, true, true, true] rfl rfl (by kernel_rfl) (fun _ _ _ h => h) (Or.inl ⟨by rfl, ?_⟩) ?_ ?_
    rotate_left
    ·intro w'
     go_simp
     with_reducible rfl
    rotate_left
    ·simp only [Act.put, lA_, lZ_, lS_, i64_w, i32_w]
     rfl
    refine done_ (by kernel_rfl) ?_
    obtain ⟨_, _, _, _, _, _⟩ := bc3 a3.out
    go_upto_region 14 with (first | ((with_reducible refine gate_callee (f := 12) rfl ?_); refine goesA_ (some 34) rfl rfl Try.func12 (by kernel_rfl) rfl #[.agg #[.int .i64 t227, .int .i64 t228, .slice ao t229.length al], .int .i64 1] rfl ?_; (with_reducible refine (laws_markGate.calls k t227 t228 (fun k_ => some k_ = (.slice ao t229.length al : Value).ownBlock) (.slice ao t229.length al) t229 1 t245 t246 w _ ?side1 ?side2 ck.out).mono ?_); (case side1 => repeat (first | (with_reducible first | exact HB.out | apply lA1_ | apply lN_ | apply lD_ | refine lS1_ ?_ aa.out | refine lS1_ ?_ ad.out | refine lS1_ ?_ aj.out | refine lS1_ ?_ am.out) | exact HB.out)); (case side2 => exact Kd.R_tight rfl a5.out); rintro e w50 ⟨rfl, hy0, hb, hkp⟩; refine ⟨_, rfl, ?_⟩; have n0_ := Aside0.mk (blk_kept (by (with_reducible repeat first | apply bN_ | apply bD_ | apply bA_); exact a0.out) hkp (fun hs_ => (fun e_ => (Kd.R_ne a5.out a0.out (by decide)) e_) hs_)); have n1_ := Aside0.mk (Kd.R_mono (ok' := fun k_ => some k_ ≠ (.slice ao t229.length al : Value).ownBlock ∧ some k_ ≠ (.slice br t241.length bs : Value).ownBlock) (Kd.R_keptB (a6.out) hkp (fun k_ hk_ hs_ => (hk_.1.2) hs_)) (fun k_ hk_ => ⟨hk_.1.1.2, hk_.1.2⟩)); have n2_ := Aside0.mk (Kd.R_mono (ok' := fun k_ => some k_ ≠ (.slice ai t234.length ag : Value).ownBlock) (Kd.R_keptB ((Kd.R_apart' a7.out (Kd.R_typed a5.out) (by decide))) hkp (fun k_ hk_ hs_ => (hk_.2) hs_)) (fun k_ hk_ => hk_.1.1.2)); have n3_ := Aside0.mk (blk_kept (by (with_reducible repeat first | apply bN_ | apply bD_ | apply bA_); exact a1.out) hkp (fun hs_ => (fun e_ => (Kd.R_ne a5.out a1.out (by decide)) e_) hs_)); have n4_ := Aside0.mk (Kd.R_reok rfl hy0 (fun k_ e_ => a5.out.1 k_ e_)); have n5_ := Aside0.mk (blk_kept (by (with_reducible repeat first | apply bN_ | apply bD_ | apply bA_); exact a3.out) hkp (fun hs_ => (fun e_ => (Kd.R_ne a5.out a3.out (by decide)) e_) hs_)); have n6_ := Aside0.mk (Kd.R_mono (ok' := fun k_ => some k_ ≠ (.slice ap t223.length ak : Value).ownBlock) (Kd.R_keptB ((Kd.R_apart' a9.out (Kd.R_typed a5.out) (by decide))) hkp (fun k_ hk_ hs_ => (hk_.2) hs_)) (fun k_ hk_ => hk_.1.1.2)); have n7_ := Aside0.mk (blk_kept (by (with_reducible repeat first | apply bN_ | apply bD_ | apply bA_); exact a4.out) hkp (fun hs_ => (fun e_ => (Kd.R_ne a5.out a4.out (by decide)) e_) hs_)); have n8_ := Aside0.mk (Kd.R_mono (ok' := fun k_ => some k_ ≠ (.slice bi t219.length bj : Value).ownBlock ∧ some k_ ≠ (.slice ao t229.length al : Value).ownBlock) (Kd.R_keptB (an.out) hkp (fun k_ hk_ hs_ => (hk_.2) hs_)) (fun k_ hk_ => ⟨hk_.1.1.2, hk_.1.2⟩)); have n9_ := Aside0.mk (hb); clear a0 a6 a7 a1 a5 a3 a9 a4 an HB; have a0 := n0_; have a6 := n1_; have a7 := n2_; have a1 := n3_; have a5 := n4_; have a3 := n5_; have a9 := n6_; have a4 := n7_; have an := n8_; have HB := n9_; clear n0_ n1_ n2_ n3_ n4_ n5_ n6_ n7_ n8_ n9_; (try clear hb); (try clear hkp); (try clear hy0)))
    (try simp only [Act.put, lA_, lZ_, lS_])
    go_cut [42] (fun v42 wc => ∃ (kq : Nat) (x42_16 : Bool), v42 = .bool x42_16 ∧ Aside0 (laws_FnExactDoneTalks.j0 kq x42_16 a0_0 a0_1 l0_2 t222 t223 t233 t234 = some true) ∧ Aside0 (kq ≤ k) ∧ Aside0 (Kd.R (Kd.int .i64) 2 wc w.heap.size (fun k_ => some k_ ≠ ((.slice ai t234.length ag) : Value).ownBlock) (.slice ap t223.length ak) t223) ∧ Aside0 (Kd.R k58 58 wc w.heap.size (fun _ => True) (.slice ao t229.length al) t246) ∧ Aside0 (Kd.R (Kd.int .i64) 2 wc w.heap.size (fun k_ => some k_ ≠ ((.slice ap t223.length ak) : Value).ownBlock) (.slice ai t234.length ag) t234) ∧ Aside0 (wc.heap[ac]? = some (.cells #[.int .i64 a0_0, .int .i64 a0_1, (.slice A0_2 l0_2.length c0_2)] 24 (0, 0))) ∧ Aside0 (wc.heap[ah]? = some (.cells #[.int .i64 t222, (.slice ap t223.length ak)] 28 (0, 0))) ∧ Aside0 (wc.heap[ab]? = some (.cells #[.int .i64 t227, .int .i64 t228, (.slice ao t229.length al)] 32 (0, 0))) ∧ Aside0 (wc.heap[ae]? = some (.cells #[.int .i64 t233, (.slice ai t234.length ag)] 28 (0, 0))) ∧ Aside0 (Below w.heap.size w wc))
    case first =>
     have H := bh.out
     clear bh
     by_cases c51 : t245 < 0
     ·rw [if_pos c51] at H
      have c51b0 : decide (t245 < 0) = true := decide_eq_true c51
      clear c51
      (first | rw [c51b0] | (simp only [i64_w, i32_w]; rw [c51b0]) | skip)
      have H' := Aside0.mk H
      clear H
      go_wp2
      go_meet
      case rel => exact ⟨_, (true), (by first | rfl | (simp; done) | (simp [*]; done)), H', ⟨by first | omega | exact Nat.le_refl _⟩, ⟨by (with_reducible repeat first | apply rA_ | apply rN_ | apply rD_); exact a7.out⟩, ⟨by (with_reducible repeat first | apply rA_ | apply rN_ | apply rD_); exact Kd.R_mono a5.out (fun _ hk => trivial)⟩, ⟨by (with_reducible repeat first | apply rA_ | apply rN_ | apply rD_); exact a9.out⟩, ⟨by (with_reducible repeat first | apply bN_ | apply bD_ | apply bA_); exact a0.out⟩, ⟨by (with_reducible repeat first | apply bN_ | apply bD_ | apply bA_); exact a1.out⟩, ⟨by (with_reducible repeat first | apply bN_ | apply bD_ | apply bA_); exact a3.out⟩, ⟨by (with_reducible repeat first | apply bN_ | apply bD_ | apply bA_); exact a4.out⟩, ⟨by repeat (first | (with_reducible first | exact HB.out | apply lA1_ | apply lN_ | apply lD_ | refine lS1_ ?_ aa.out | refine lS1_ ?_ ad.out | refine lS1_ ?_ aj.out | refine lS1_ ?_ am.out) | exact HB.out)⟩⟩
     ·rw [if_neg c51] at H
      have c51b0 : decide (t245 < 0) = false := decide_eq_false c51
      clear c51
      (first | rw [c51b0] | (simp only [i64_w, i32_w]; rw [c51b0]) | skip)
      replace H := Option.bind_eq_some_iff.mp H
      obtain ⟨t247, bt, H⟩ := H
      try dsimp only at H
      have cl := Aside0.mk bt
      clear bt
      have H' := Aside0.mk H
      clear H
      have d4 := b1.out
      have d5 := au.out
      have d6 := b2.out
      have d7 := av.out
      have d8 := b3.out
      have d9 := aw.out
      obtain ⟨_, _, _, _⟩ := bc2 a4.out
      have da := ay.out
      have db := aq.out
      have dc := ar.out
      have dd := b0.out
      obtain ⟨_, _, _, _⟩ := bc2 a1.out
      go_wp2_with (first | (go_at_call 10; (with_reducible refine (laws_eqIntsResult.calls k t233 _ _ t234 t222 _ _ t223 t247 _ ?side1 ?side2 ?side3 ?side4 cl.out).mono ?_); (case side1 => repeat (first | exact (Kd.R_reads' a9.out).2.2 | (with_reducible refine Kd.C_alloc ?_ _) | (with_reducible refine Kd.C_drewN ?_ _) | (with_reducible refine Kd.C_drew ?_))); (case side2 => exact (Kd.R_reads' a9.out).2.1); (case side3 => repeat (first | exact (Kd.R_reads' a7.out).2.2 | (with_reducible refine Kd.C_alloc ?_ _) | (with_reducible refine Kd.C_drewN ?_ _) | (with_reducible refine Kd.C_drew ?_))); (case side4 => exact (Kd.R_reads' a7.out).2.1); rintro e w60 ⟨rfl, hb⟩; have n0_ := Aside0.mk (Kd.R_below (by (with_reducible repeat first | apply rA_ | apply rN_ | apply rD_); exact a6.out) hb); have n1_ := Aside0.mk (Kd.R_below (by (with_reducible repeat first | apply rA_ | apply rN_ | apply rD_); exact a7.out) hb); have n2_ := Aside0.mk (Kd.R_below (by (with_reducible repeat first | apply rA_ | apply rN_ | apply rD_); exact a5.out) hb); have n3_ := Aside0.mk (Kd.R_below (by (with_reducible repeat first | apply rA_ | apply rN_ | apply rD_); exact a9.out) hb); have n4_ := Aside0.mk (Kd.R_below (by (with_reducible repeat first | apply rA_ | apply rN_ | apply rD_); exact an.out) hb); have n5_ := Aside0.mk (bB_ (g := ac) (o := .cells #[.int .i64 a0_0, .int .i64 a0_1, .slice A0_2 l0_2.length c0_2] 24 (0, 0)) (by (with_reducible repeat first | apply bN_ | apply bD_ | apply bA_); exact a0.out) hb); have n6_ := Aside0.mk (bB_ (g := ah) (o := .cells #[.int .i64 t222, .slice ap t223.length ak] 28 (0, 0)) (by (with_reducible repeat first | apply bN_ | apply bD_ | apply bA_); exact a1.out) hb); have n7_ := Aside0.mk (bB_ (g := ab) (o := .cells #[.int .i64 t227, .int .i64 t228, .slice ao t229.length al] 32 (0, 0)) (by (with_reducible repeat first | apply bN_ | apply bD_ | apply bA_); exact a3.out) hb); have n8_ := Aside0.mk (bB_ (g := ae) (o := .cells #[.int .i64 t233, .slice ai t234.length ag] 28 (0, 0)) (by (with_reducible repeat first | apply bN_ | apply bD_ | apply bA_); exact a4.out) hb); have n9_ := Aside0.mk (lP_ (by repeat (first | (with_reducible first | exact HB.out | apply lA1_ | apply lN_ | apply lD_ | refine lS1_ ?_ aa.out | refine lS1_ ?_ ad.out | refine lS1_ ?_ aj.out | refine lS1_ ?_ am.out) | exact HB.out)) hb); clear a6 a7 a5 a9 an a0 a1 a3 a4 HB; have a6 := n0_; have a7 := n1_; have a5 := n2_; have a9 := n3_; have an := n4_; have a0 := n5_; have a1 := n6_; have a3 := n7_; have a4 := n8_; have HB := n9_; clear n0_ n1_ n2_ n3_ n4_ n5_ n6_ n7_ n8_ n9_; (try clear hb); (try clear hb2); (try clear hk); (try clear hi)))
      go_meet
      case rel => exact ⟨_, (!t247), (by first | rfl | (simp; done) | (simp [*]; done)), H', ⟨by first | omega | exact Nat.le_refl _⟩, ⟨by (with_reducible repeat first | apply rA_ | apply rN_ | apply rD_); exact a7.out⟩, ⟨by (with_reducible repeat first | apply rA_ | apply rN_ | apply rD_); exact Kd.R_mono a5.out (fun _ hk => trivial)⟩, ⟨by (with_reducible repeat first | apply rA_ | apply rN_ | apply rD_); exact a9.out⟩, ⟨by (with_reducible repeat first | apply bN_ | apply bD_ | apply bA_); exact a0.out⟩, ⟨by (with_reducible repeat first | apply bN_ | apply bD_ | apply bA_); exact a1.out⟩, ⟨by (with_reducible repeat first | apply bN_ | apply bD_ | apply bA_); exact a3.out⟩, ⟨by (with_reducible repeat first | apply bN_ | apply bD_ | apply bA_); exact a4.out⟩, ⟨by repeat (first | (with_reducible first | exact HB.out | apply lA1_ | apply lN_ | apply lD_ | refine lS1_ ?_ aa.out | refine lS1_ ?_ ad.out | refine lS1_ ?_ aj.out | refine lS1_ ?_ am.out) | exact HB.out)⟩⟩
    case rest =>
     clear bh
     try clear c1
     try clear c2
     try clear p2
     try clear c3
     try clear c3b0
     try clear c4
     try clear c5
     try clear c6
     try clear c7
     try clear c8
     try clear c9
     try clear c10
     try clear c11
     try clear c12
     try clear c15
     try clear c26
     try clear c32
     try clear c33
     try clear c38
     try clear c39
     try clear c40
     try clear c51
     try clear c51b0
     try clear c53
     try clear c54
     try clear c55
     try clear c57
     try clear c58
     try clear hcz19_0
     try clear hcz19_1
     try clear hcz19_2
     try clear hcz21_0
     try clear hcz21_1
     try clear hcz21_2
     try clear hcz27_0
     try clear hcz27_1
     try clear hcz29_0
     try clear hcz29_1
     try clear hcz29_2
     try clear hcz34_0
     try clear hcz34_1
     try clear hcz34_2
     try clear hcz41_0
     try clear hcz41_1
     try clear hcz43_0
     try clear hcz43_1
     try clear hcz49_0
     try clear hcz49_1
     try clear hcz49_2
     try clear hcz56_0
     try clear hcz56_1
     try clear hcz59_0
     try clear hcz59_1
     try clear hcz5_0
     try clear hcz5_1
     try clear hcz5_2
     try clear hfz19_0
     try clear hfz19_1
     try clear hfz19_2
     try clear hfz21_0
     try clear hfz21_1
     try clear hfz21_2
     try clear hfz27_0
     try clear hfz27_1
     try clear hfz29_0
     try clear hfz29_1
     try clear hfz29_2
     try clear hfz34_0
     try clear hfz34_1
     try clear hfz34_2
     try clear hfz41_0
     try clear hfz41_1
     try clear hfz43_0
     try clear hfz43_1
     try clear hfz49_0
     try clear hfz49_1
     try clear hfz49_2
     try clear hfz56_0
     try clear hfz56_1
     try clear hfz59_0
     try clear hfz59_1
     try clear hfz5_0
     try clear hfz5_1
     try clear hfz5_2
     obtain ⟨kq, x42_16, rfl, HA, HJ16, a8, af, a2, a0, a1, a3, a4, HB⟩ := hcut
     have hl233002_16 := (Kd.R_reads' af.out).1
     rw [hl233002_16] at af
     (try simp only [hl233002_16])
     (try simp only [hl233002_16] at a0)
     (try simp only [hl233002_16] at a1)
     (try simp only [hl233002_16] at a3)
     (try simp only [hl233002_16] at a4)
     (try simp only [hl233002_16] at a8)
     (try simp only [hl233002_16] at a2)
     cases kq with
     | zero => exact absurd HA.out (by simp [laws_FnExactDoneTalks.j0])
     | succ kj16 =>
      have H := HA.out
      clear HA
      simp only [laws_FnExactDoneTalks.j0] at H
      by_cases c61 : x42_16 = true
      ·subst c61
       rw [if_pos rfl] at H
       exact absurd (Option.some.inj H) (by decide)
      ·replace c61 := Bool.eq_false_iff.mpr c61
       subst c61
       rw [if_neg (show ¬ (false = true) by decide)] at H
       replace H := Option.bind_eq_some_iff.mp H
       obtain ⟨⟨t248, t249⟩, bu, H⟩ := H
       try dsimp only at H
       have cm := Aside0.mk bu
       clear bu
       replace H := Option.bind_eq_some_iff.mp H
       obtain ⟨t250, bv, H⟩ := H
       try dsimp only at H
       have cn := Aside0.mk bv
       clear bv
       by_cases c64 : t250 < 0
       ·rw [if_pos c64] at H
        have c64b0 : decide (t250 < 0) = true := decide_eq_true c64
        clear c64
        exact absurd (Option.some.inj H) (by decide)
       ·rw [if_neg c64] at H
        have c64b0 : decide (t250 < 0) = false := decide_eq_false c64
        clear c64
        by_cases c65 : t250 = t248
        ·rw [if_pos c65] at H
         have c65b0 : (t250 == t248) = true := beq_iff_eq.mpr c65
         have c65b1 : (t250 != t248) = false := bne_eq_false_iff_eq.mpr c65
         clear c65
         replace H := Option.bind_eq_some_iff.mp H
         obtain ⟨⟨t251, t252, t253⟩, bw, H⟩ := H
         try dsimp only at H
         have co := Aside0.mk bw
         clear bw
         replace H := Option.bind_eq_some_iff.mp H
         obtain ⟨⟨t256, t257⟩, bx, H⟩ := H
         try dsimp only at H
         have cp := Aside0.mk bx
         clear bx
         replace H := Option.bind_eq_some_iff.mp H
         obtain ⟨t261, bz, H⟩ := H
         try dsimp only at H
         have cq := Aside0.mk bz
         clear bz
         by_cases c69 : t261 = true
         ·subst c69
          rw [if_pos rfl] at H
          replace H := Option.bind_eq_some_iff.mp H
          obtain ⟨t262, c0, H⟩ := H
          try dsimp only at H
          have bl := Aside0.mk c0
          clear c0
          by_cases c71 : t262 < 0
          ·rw [if_pos c71] at H
           have c71b0 : decide (t262 < 0) = true := decide_eq_true c71
           clear c71
           exact absurd (Option.some.inj H) (by decide)
          ·rw [if_neg c71] at H
           have c71b0 : decide (t262 < 0) = false := decide_eq_false c71
           clear c71
           by_cases c72 : t262 = t248
           ·rw [if_pos c72] at H
            have c72b0 : (t262 == t248) = true := beq_iff_eq.mpr c72
            have c72b1 : (t262 != t248) = false := bne_eq_false_iff_eq.mpr c72
            clear c72
            clear H
            have de := b1.out
            have df := au.out
            have dg := b2.out
            have dh := av.out
            have di := b3.out
            have dj := aw.out
            obtain ⟨_, _, _, _⟩ := bc2 a4.out
            go_wp2_with (first | ((with_reducible refine gate_callee (f := 13) rfl ?_); refine goesA_ (some 45) rfl rfl Try.func13 (by kernel_rfl) rfl #[.agg #[.int .i64 t233, .slice ai t234.length ag], .int .i64 1] rfl ?_; (with_reducible refine (laws_markIntsResult.calls kj16 t233 (fun k_ => some k_ = (.slice ai t234.length ag : Value).ownBlock) (.slice ai t234.length ag) t234 1 t248 t249 w _ ?side1 ?side2 cm.out).mono ?_); (case side1 => repeat (first | (with_reducible first | exact HB.out | refine lS1_ ?_ aa.out | refine lS1_ ?_ ad.out | refine lS1_ ?_ aj.out | refine lS1_ ?_ am.out) | exact HB.out)); (case side2 => exact Kd.R_tight rfl a2.out); rintro e w77 ⟨rfl, hy0, hb, hkp⟩; refine ⟨_, rfl, ?_⟩; have n0_ := Aside0.mk (Kd.R_mono (ok' := fun k_ => some k_ ≠ (.slice ai t234.length ag : Value).ownBlock) (Kd.R_keptB (a8.out) hkp (fun k_ hk_ hs_ => (hk_) hs_)) (fun k_ hk_ => hk_.1)); have n1_ := Aside0.mk (Kd.R_mono (ok' := fun k_ => True) (Kd.R_keptB ((Kd.R_apart' af.out (Kd.R_typed a2.out) (by decide))) hkp (fun k_ hk_ hs_ => (hk_.2) hs_)) (fun k_ hk_ => trivial)); have n2_ := Aside0.mk (Kd.R_reok rfl hy0 (fun k_ e_ => a2.out.1 k_ e_)); have n3_ := Aside0.mk (blk_kept a0.out hkp (fun hs_ => (fun e_ => (Kd.R_ne a2.out a0.out (by decide)) e_) hs_)); have n4_ := Aside0.mk (blk_kept a1.out hkp (fun hs_ => (fun e_ => (Kd.R_ne a2.out a1.out (by decide)) e_) hs_)); have n5_ := Aside0.mk (blk_kept a3.out hkp (fun hs_ => (fun e_ => (Kd.R_ne a2.out a3.out (by decide)) e_) hs_)); have n6_ := Aside0.mk (blk_kept a4.out hkp (fun hs_ => (fun e_ => (Kd.R_ne a2.out a4.out (by decide)) e_) hs_)); have n7_ := Aside0.mk (hb); clear a8 af a2 a0 a1 a3 a4 HB; have a8 := n0_; have af := n1_; have a2 := n2_; have a0 := n3_; have a1 := n4_; have a3 := n5_; have a4 := n6_; have HB := n7_; clear n0_ n1_ n2_ n3_ n4_ n5_ n6_ n7_; (try clear hb); (try clear hkp); (try clear hy0); obtain ⟨_, _, _, _⟩ := bc2 a4.out) | ((with_reducible refine gate_callee (f := 14) rfl ?_); refine goesL_ (some 48) rfl rfl Try.func14 (by kernel_rfl) rfl #[.agg #[.int .i64 t233, .slice ai t249.length ag], .int .i64 1] rfl (by (try simp only [List.map_toArray, List.map_cons, List.map_nil]); first | done | (rw [show t249.length = t234.length from (Kd.R_reads' a2.out).1.symm] <;> rfl) | rfl | (simp only [List.length_drop, List.length_take]; rfl)) ?_; (with_reducible refine (laws_heldIntsResult.calls kj16 t233 _ _ t249 1 t250 _ ?side1 ?side2 cn.out).mono ?_); (case side1 => repeat (first | exact (Kd.R_reads' a2.out).2.2 | (with_reducible refine Kd.C_alloc ?_ _) | (with_reducible refine Kd.C_drewN ?_ _) | (with_reducible refine Kd.C_drew ?_))); (case side2 => rw [show t249.length = t234.length from (Kd.R_reads' a2.out).1.symm]; exact (Kd.R_reads' a2.out).2.1); rintro e w79 ⟨rfl, hb⟩; refine ⟨_, rfl, ?_⟩; have n0_ := Aside0.mk (Kd.R_below a8.out hb); have n1_ := Aside0.mk (Kd.R_below af.out hb); have n2_ := Aside0.mk (Kd.R_below a2.out hb); have n3_ := Aside0.mk (bB_ a0.out hb); have n4_ := Aside0.mk (bB_ a1.out hb); have n5_ := Aside0.mk (bB_ a3.out hb); have n6_ := Aside0.mk (bB_ a4.out hb); have n7_ := Aside0.mk (lP_ HB.out hb); clear a8 af a2 a0 a1 a3 a4 HB; have a8 := n0_; have af := n1_; have a2 := n2_; have a0 := n3_; have a1 := n4_; have a3 := n5_; have a4 := n6_; have HB := n7_; clear n0_ n1_ n2_ n3_ n4_ n5_ n6_ n7_; (try clear hb); (try clear hb2); (try clear hk); (try clear hi); have dk := aq.out; have dl := ay.out; have dm := az.out; have dn := b5.out; obtain ⟨_, _, _, _, _, _⟩ := bc3 a0.out) | ((with_reducible refine gate_callee (f := 8) rfl ?_); refine goesA_ (some 55) rfl rfl Try.func8 (by kernel_rfl) rfl #[.agg #[.int .i64 a0_0, .int .i64 a0_1, .slice A0_2 l0_2.length c0_2]] rfl ?_; (with_reducible refine (laws_toGate.calls kj16 a0_0 a0_1 _ _ l0_2 t251 t252 t253 _ ?side1 ?side2 co.out).mono ?_); (case side1 => repeat (first | exact (Kd.C_below HR0_2.out HB.out) | (with_reducible refine Kd.C_alloc ?_ _) | (with_reducible refine Kd.C_drewN ?_ _) | (with_reducible refine Kd.C_drew ?_))); (case side2 => exact HC0_2.out); rintro e w83 ⟨v254, rfl, ho0, hb⟩; refine ⟨_, rfl, ?_⟩; have n0_ := Aside0.mk (Kd.R_below a8.out hb); have n2_ := Aside0.mk (Kd.R_below a2.out hb); have n3_ := Aside0.mk (Kd.R_lower (Kd.R_new' ho0 (Kd.R_lt af.out)) (below_size HB.out)); have n4_ := Aside0.mk (bB_ a0.out hb); have n5_ := Aside0.mk (bB_ a1.out hb); have n6_ := Aside0.mk (bB_ a3.out hb); have n7_ := Aside0.mk (bB_ a4.out hb); have n8_ := Aside0.mk (lP_ HB.out hb); clear a8 a2 a0 a1 a3 a4 HB; have a8 := n0_; have a2 := n2_; have b8 := n3_; have a0 := n4_; have a1 := n5_; have a3 := n6_; have a4 := n7_; have HB := n8_; clear n0_ n2_ n3_ n4_ n5_ n6_ n7_ n8_; (try clear hb); (try clear hb2); (try clear hk); (try clear hi); (try clear ho0); obtain ⟨ce, cf, eo84⟩ := Kd.R_slice b8.out; subst eo84) | ((with_reducible refine gate_callee (f := 9) rfl ?_); refine goesA_ (some 56) rfl rfl Try.func9 (by kernel_rfl) rfl #[.agg #[.int .i64 t251, .int .i64 t252, .slice ce t253.length cf]] rfl ?_; (with_reducible refine (impl_DoneTalks.calls kj16 t251 t252 _ _ t253 t256 t257 _ ?side1 ?side2 cp.out).mono ?_); (case side1 => repeat (first | exact (Kd.R_reads' b8.out).2.2 | (with_reducible refine Kd.C_alloc ?_ _) | (with_reducible refine Kd.C_drewN ?_ _) | (with_reducible refine Kd.C_drew ?_))); (case side2 => exact (Kd.R_reads' b8.out).2.1); rintro e w85 ⟨v258, rfl, ho0, hb⟩; refine ⟨_, rfl, ?_⟩; have n0_ := Aside0.mk (Kd.R_elder' a8.out (Kd.R_base ho0) hb); have n2_ := Aside0.mk (Kd.R_elder' a2.out (Kd.R_base ho0) hb); have n4_ := Aside0.mk (Kd.R_lower (Kd.R_new' (Kd.R_new' ho0 (Kd.R_lt a8.out)) (Kd.R_lt a2.out)) (below_size HB.out)); have n5_ := Aside0.mk (bB_ a0.out hb); have n6_ := Aside0.mk (bB_ a1.out hb); have n7_ := Aside0.mk (bB_ a3.out hb); have n8_ := Aside0.mk (bB_ a4.out hb); have n9_ := Aside0.mk (lP_ HB.out hb); clear a8 a2 a0 a1 a3 a4 HB; have a8 := n0_; have a2 := n2_; have b4 := n4_; have a0 := n5_; have a1 := n6_; have a3 := n7_; have a4 := n8_; have HB := n9_; clear n0_ n2_ n4_ n5_ n6_ n7_ n8_ n9_; (try clear hb); (try clear hb2); (try clear hk); (try clear hi); (try clear ho0)) | ((with_reducible refine gate_dst (N := 10) rfl ?_); refine box_event ?hg (N := 10) ?hd (cs := #[.int .i64 0, .slice none 0 0]) (t := 28) ?hr ?_; (case hd => rfl); (case hg => rfl); (case hr => first | (go_simp; done) | (go_simp; rfl)); intro ax hg w86 hbox hb; have n0_ := Aside0.mk (Kd.R_below a8.out hb); have n2_ := Aside0.mk (Kd.R_below a2.out hb); have n4_ := Aside0.mk (Kd.R_below b4.out hb); have n6_ := Aside0.mk (bB_ a1.out hb); have n8_ := Aside0.mk (bB_ a4.out hb); have n9_ := Aside0.mk (lP_ HB.out hb); have n10_ := Aside0.mk (hbox); have n12_ := Aside0.mk ((by rw [hg]; exact (below_size HB.out) : w.heap.size ≤ ax)); have n13_ := Aside0.mk ((by rw [hg]; exact Nat.ne_of_lt (blk_lt a0.out) : ac ≠ ax)); have n14_ := Aside0.mk n13_.out.symm; have n15_ := Aside0.mk ((by rw [hg]; exact Nat.ne_of_lt (blk_lt a1.out) : ah ≠ ax)); have n16_ := Aside0.mk n15_.out.symm; have n17_ := Aside0.mk ((by rw [hg]; exact Nat.ne_of_lt (blk_lt a3.out) : ab ≠ ax)); have n18_ := Aside0.mk n17_.out.symm; have n19_ := Aside0.mk ((by rw [hg]; exact Nat.ne_of_lt (blk_lt a4.out) : ae ≠ ax)); have n20_ := Aside0.mk n19_.out.symm; clear a8 a2 b4 a1 a4 HB; have a8 := n0_; have a2 := n2_; have b4 := n4_; have a1 := n6_; have a4 := n8_; have HB := n9_; have b7 := n10_; have b9 := n12_; have ba := n13_; have bb := n14_; have bc := n15_; have bd := n16_; have be := n17_; have bf := n18_; have b6 := n19_; have bg := n20_; clear n0_ n2_ n4_ n6_ n8_ n9_ n10_ n12_ n13_ n14_ n15_ n16_ n17_ n18_ n19_ n20_ hb hbox hg; have dp := bb.out; have dq := ba.out; have dr := bd.out; have dt := bc.out; have du := bf.out; have dv := be.out; have dw := bg.out; have dx := b6.out; obtain ⟨_, _, _, _⟩ := bc2 b7.out; obtain ⟨ca, bk, eo92⟩ := Kd.R_slice b4.out; subst eo92; have dy := ar.out; have dz := b0.out; obtain ⟨_, _, _, _⟩ := bc2 a1.out) | ((with_reducible refine gate_callee (f := 10) rfl ?_); refine goesA_ (some 59) rfl rfl Try.func10 (by kernel_rfl) rfl #[.agg #[.int .i64 t256, .slice ca t257.length bk], .agg #[.int .i64 t222, .slice ap t223.length ak]] rfl ?_; (with_reducible refine (laws_eqIntsResult.calls kj16 t256 _ _ t257 t222 _ _ t223 true _ ?side1 ?side2 ?side3 ?side4 cq.out).mono ?_); (case side1 => refine (Kd.R_reads' (e := 2) (base := w.heap.size) (ok := fun k_ => ((True ∧ some k_ ≠ (.slice ap t223.length ak : Value).ownBlock) ∧ some k_ ≠ (.slice ai t234.length ag : Value).ownBlock)) (n := t257.length) (c := bk) ?_).2.2; exact (Kd.R_mono (rfar2 (g := ax) (Kd.R_types b4.out b7.out (by decide)) (fun _ hk => hk.2)) (fun _ h_ => h_.1))); (case side2 => exact (Kd.R_reads' b4.out).2.1); (case side3 => refine (Kd.R_reads' (e := 2) (base := w.heap.size) (ok := fun k_ => (some k_ ≠ (.slice ai t234.length ag : Value).ownBlock ∧ some k_ ≠ (.slice ca t257.length bk : Value).ownBlock)) (n := t223.length) (c := ak) ?_).2.2; exact (Kd.R_mono (rfar2 (g := ax) (Kd.R_types a8.out b7.out (by decide)) (fun _ hk => hk.2)) (fun _ h_ => h_.1))); (case side4 => exact (Kd.R_reads' a8.out).2.1); rintro e w95 ⟨rfl, hb⟩; refine ⟨_, rfl, ?_⟩; have n2_ := Aside0.mk (Kd.R_below (Kd.R_mono (rfar2 (g := ax) (Kd.R_types a2.out b7.out (by decide)) (fun _ hk => hk.2)) (fun _ h_ => h_.1)) hb); have n8_ := Aside0.mk (bB_ (g := ae) (o := .cells #[.int .i64 t233, .slice ai t234.length ag] 28 (0, 0)) (by (iterate 2 (refine bF_ ?_ b6.out _)); exact a4.out) hb); have n10_ := Aside0.mk (lP_ (by repeat (first | (with_reducible first | exact HB.out | refine lS1_ ?_ aa.out | refine lS1_ ?_ ad.out | refine lS1_ ?_ aj.out | refine lS1_ ?_ am.out | refine lS1_ ?_ b9.out) | exact HB.out)) hb); clear a2 a4 HB; have a2 := n2_; have a4 := n8_; have HB := n10_; clear n2_ n8_ n10_; (try clear hb); (try clear hb2); (try clear hk); (try clear hi); obtain ⟨_, _, _, _⟩ := bc2 a4.out) | ((with_reducible refine gate_callee (f := 14) rfl ?_); refine goesL_ (some 63) rfl rfl Try.func14 (by kernel_rfl) rfl #[.agg #[.int .i64 t233, .slice ai t249.length ag], .int .i64 1] rfl (by (try simp only [List.map_toArray, List.map_cons, List.map_nil]); first | done | (rw [show t249.length = t234.length from (Kd.R_reads' a2.out).1.symm] <;> rfl) | rfl | (simp only [List.length_drop, List.length_take]; rfl)) ?_; (with_reducible refine (laws_heldIntsResult.calls kj16 t233 _ _ t249 1 t262 _ ?side1 ?side2 bl.out).mono ?_); (case side1 => repeat (first | exact (Kd.R_reads' a2.out).2.2 | (with_reducible refine Kd.C_alloc ?_ _) | (with_reducible refine Kd.C_drewN ?_ _) | (with_reducible refine Kd.C_drew ?_))); (case side2 => rw [show t249.length = t234.length from (Kd.R_reads' a2.out).1.symm]; exact (Kd.R_reads' a2.out).2.1); rintro e w97 ⟨rfl, hb⟩; refine ⟨_, rfl, ?_⟩; have n10_ := Aside0.mk (lP_ (by repeat (first | (with_reducible first | exact HB.out | refine lS1_ ?_ aa.out | refine lS1_ ?_ ad.out | refine lS1_ ?_ aj.out | refine lS1_ ?_ am.out | refine lS1_ ?_ b9.out) | exact HB.out)) hb); clear HB; have HB := n10_; clear n10_; (try clear hb); (try clear hb2); (try clear hk); (try clear hi)))
            go_ret
            exact ⟨by first | rfl | (rw [hr_.out]; first | done | rfl) | (simp [errW_none, errW_some] <;> rfl) | (simp [*, errW_none, errW_some] <;> rfl), by repeat (first | (with_reducible first | exact HB.out | apply lA1_ | apply lN_ | apply lD_ | refine lS1_ ?_ aa.out | refine lS1_ ?_ ad.out | refine lS1_ ?_ aj.out | refine lS1_ ?_ am.out | refine lS1_ ?_ b9.out) | exact HB.out)⟩
           ·rw [if_neg c72] at H
            have c72b0 : (t262 == t248) = false := beq_eq_false_iff_ne.mpr c72
            have c72b1 : (t262 != t248) = true := bne_iff_ne.mpr c72
            exact absurd (Option.some.inj H) (by decide)
         ·replace c69 := Bool.eq_false_iff.mpr c69
          subst c69
          rw [if_neg (show ¬ (false = true) by decide)] at H
          exact absurd (Option.some.inj H) (by decide)
        ·rw [if_neg c65] at H
         have c65b0 : (t250 == t248) = false := beq_eq_false_iff_ne.mpr c65
         have c65b1 : (t250 != t248) = true := bne_iff_ne.mpr c65
         exact absurd (Option.some.inj H) (by decide)
   ·replace c15 := Bool.eq_false_iff.mpr c15
    subst c15
    rw [if_neg (show ¬ (false = true) by decide)] at H
    exact absurd (Option.some.inj H) (by decide)
  ·replace c12 := Bool.eq_false_iff.mpr c12
   subst c12
   rw [if_neg (show ¬ (false = true) by decide)] at H
   exact absurd (Option.some.inj H) (by decide)
end Go.Proofs.Ytaniedjfkiklmaa.G
