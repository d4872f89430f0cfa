/- Part 6 of the proof of FnKeys: what the functions on its road do, and the plain laws. -/
import Derived.Test.YtpabeajjbifjdaaCFnKeys5
namespace Go.Proofs.Ytpabeajjbifjdaa.G
open Go.RowKit Go.Proofs.YtpabeajjbifjdaaW.PrintWords Go.Proofs.YtpabeajjbifjdaaW.PrintLast Go.Proofs.YtpabeajjbifjdaaW.PrintMore
attribute [local go_sem] max2_int min2_int max_two min_two max_three min_three max_four min_four   -- for this text's walks alone
set_option linter.unusedVariables false
set_option linter.unusedSimpArgs false
attribute [local go_sem high] eqA28
mutual
def laws_FnKeys.j0 : Nat → List (S36) → Int → Int → List Int → Int → Int → Int → Int → Int → List (S36) → Int → Int → List (S36) → Int → Int → Int → Int → Int → List (S36) → Option (Bool)
 | 0,_,_,_,_,_,_,_,_,_,_,_,_,_,_,_,_,_,_,_ => none
 | k + 1,x3,x6,x7,x13,x368000,x368001,x368002,x368003,x368004,x368005,x382000,x382001,x382002,x397000,x397001,x397002,x397003,x397004,x397005 => (impl_Derives.f k x382002 x13 x6).bind fun t403 => (if t403 = true then (laws_FnKeys.j1 k x13 false x368000 x368001 x368002 x368003 x368004 x368005 x382000 x382001 x382002 x397000 x397001 x397002 x397003 x397004 x397005) else (if 0 ≤ x7 then (if x7 < (x3.length : Int) then ((impl_Derives.f k x382002 x13 ((rd_T36 x3 x7).f1)).bind fun t405 => (laws_FnKeys.j1 k x13 (!t405) x368000 x368001 x368002 x368003 x368004 x368005 x382000 x382001 x382002 x397000 x397001 x397002 x397003 x397004 x397005)) else (none)) else (none)))
def laws_FnKeys.j1 : Nat → List Int → Bool → Int → Int → Int → Int → Int → List (S36) → Int → Int → List (S36) → Int → Int → Int → Int → Int → List (S36) → Option (Bool)
 | 0,_,_,_,_,_,_,_,_,_,_,_,_,_,_,_,_,_ => none
 | k + 1,x13,x14,x368000,x368001,x368002,x368003,x368004,x368005,x382000,x382001,x382002,x397000,x397001,x397002,x397003,x397004,x397005 => (impl_TermsFault.f x368005).bind fun t406 => (if t406 = 0 then (if x397000 = 0 then (if (x397001 == x368001 && (x397002 == x368002 && (x397003 == x368003 && (x397004 == x368004)))) = true then (if (x397005.length : Int) = (x382002.length : Int) then (if x368001 = x368002 then (some false) else (if x368003 = x368004 then (some false) else (if x14 = true then ((impl_IsSecret.f k x382002 x13 x368003).bind fun t407 => (if t407 = true then (some true) else ((impl_Derives.f k x382002 x13 x368001).bind fun t408 => (if t408 = true then (some true) else ((impl_OpenAll.f k x382002 x13).bind fun bt409 => ((laws_lwHas.f k bt409.2 x368003).bind fun t413 => (some t413))))))) else (some true)))) else (some false)) else (some false)) else (some false)) else (some false))
end
def laws_FnKeys.f (k : Nat) (l0 : List Int) : Option (Bool):=(laws_lwBig.f l0).bind fun t349 => (if t349 = true then (some true) else ((spec_DrawMakeKeys.f k l0).bind fun bt350 => ((impl_MakeKeys.f k bt350.1 bt350.2.1 bt350.2.2.1 bt350.2.2.2.1 bt350.2.2.2.2.1 bt350.2.2.2.2.2.1 bt350.2.2.2.2.2.2).bind fun bt359 => (if bt359.1 = 0 then ((impl_PutTerm.f k bt359.2.2.2.2.2 6 bt350.2.2.2.1 0 0).bind fun bt376 => (if bt376.1 = 0 then (if 0 ≤ bt350.2.2.2.2.1 then (if bt350.2.2.2.2.1 < (bt350.1.length : Int) then ((impl_MakeKeys.f k bt376.2.2 bt350.2.1 bt350.2.2.1 ((rd_T36 bt350.1 bt350.2.2.2.2.1).f1) bt376.2.1 bt350.2.2.2.2.2.1 bt350.2.2.2.2.2.2).bind fun bt388 => ((some (([bt350.2.1] : List Int) : List Int)).bind fun y397 => (if bt350.2.2.1 > bt350.2.1 then (if y397.length < 17592186044416 then (laws_FnKeys.j0 k bt350.1 bt350.2.2.2.1 bt350.2.2.2.2.1 (y397 ++ [bt350.2.2.1]) bt359.1 bt359.2.1 bt359.2.2.1 bt359.2.2.2.1 bt359.2.2.2.2.1 bt359.2.2.2.2.2 bt376.1 bt376.2.1 bt376.2.2 bt388.1 bt388.2.1 bt388.2.2.1 bt388.2.2.2.1 bt388.2.2.2.2.1 bt388.2.2.2.2.2) else (none)) else (laws_FnKeys.j0 k bt350.1 bt350.2.2.2.1 bt350.2.2.2.2.1 y397 bt359.1 bt359.2.1 bt359.2.2.1 bt359.2.2.2.1 bt359.2.2.2.2.1 bt359.2.2.2.2.2 bt376.1 bt376.2.1 bt376.2.2 bt388.1 bt388.2.1 bt388.2.2.1 bt388.2.2.2.1 bt388.2.2.2.2.1 bt388.2.2.2.2.2)))) else (none)) else (none)) else ((spec_PutTerm.f k bt359.2.2.2.2.2 6 bt350.2.2.2.1 0 0).bind fun bt382 => (some (bt382.1 == bt376.1))))) else ((spec_MakeKeys.f k bt350.1 bt350.2.1 bt350.2.2.1 bt350.2.2.2.1 bt350.2.2.2.2.1 bt350.2.2.2.2.2.1 bt350.2.2.2.2.2.2).bind fun bt368 => (some (bt368.1 == bt359.1)))))))
def laws_FnKeys.T6 : Bool × List (List Nat × List Nat):=(true,[([],[]),([],[]),([],[]),([],[]),([],[]),([],[]),([],[]),([0,1,2,3,4,5,6],[0,1,2,3,4,5,6]),([7],[7]),([],[]),([9],[9]),([8,10],[8,10]),([11,7,0,1,2,3,4,5,6,7,8,9,10,11],[11])])
def laws_FnKeys.B6 : List Nat:=[0,0,0,0,0,0,0,127,255,0,512,2047,4095]
theorem laws_FnKeys.tab6 : rtab .any (opsOf Try.f3 6) = laws_FnKeys.T6:=by kernel_rfl
theorem laws_FnKeys.bits6 : waitsOk laws_FnKeys.T6.2 laws_FnKeys.B6 = true:=by kernel_rfl
def laws_FnKeys.T9 : Bool × List (List Nat × List Nat):=(true,[([],[]),([0],[0]),([],[]),([2],[2]),([1,3],[1,3]),([4],[4]),([],[]),([6],[6]),([5,7],[5,7]),([8,4,0,1,2,3,4,5,6,7,8],[8])])
def laws_FnKeys.B9 : List Nat:=[0,1,0,4,15,31,0,64,255,511]
theorem laws_FnKeys.tab9 : rtab .any (opsOf Try.f3 9) = laws_FnKeys.T9:=by kernel_rfl
theorem laws_FnKeys.bits9 : waitsOk laws_FnKeys.T9.2 laws_FnKeys.B9 = true:=by kernel_rfl
def laws_FnKeys.T10 : Bool × List (List Nat × List Nat):=(true,[([],[]),([0],[0]),([],[]),([],[]),([],[]),([],[]),([4,5],[4,5]),([6],[6]),([7],[7]),([],[]),([9],[9]),([],[]),([],[]),([1,2,3,8,10,11,12],[1,2,3,8,10,11,12]),([],[]),([14,13,13,0,1,2,3,4,5,6,7,8,9,10,11,12,13,14],[13,14])])
def laws_FnKeys.B10 : List Nat:=[0,1,0,0,0,0,48,112,240,0,512,0,0,8191,0,32767]
theorem laws_FnKeys.tab10 : rtab .any (opsOf Try.f3 10) = laws_FnKeys.T10:=by kernel_rfl
theorem laws_FnKeys.bits10 : waitsOk laws_FnKeys.T10.2 laws_FnKeys.B10 = true:=by kernel_rfl
def laws_FnKeys.T14 : Bool × List (List Nat × List Nat):=(true,[([],[]),([0],[0]),([],[]),([],[]),([1,2,3],[1,2,3]),([4],[4]),([5,4],[5]),([6],[6]),([7,6],[6,7]),([6],[6]),([6],[6]),([6],[6]),([10,11,6],[6,10,11]),([12,6],[6,12]),([13,6],[6,13]),([8,9,14,6,6],[6,8,9,14]),([15,6],[6,15]),([6,16],[6,16]),([17,15,0,1,2,3,4,5,6,7,8,9,10,11,12,13,14,15,16,17],[17])])
def laws_FnKeys.B14 : List Nat:=[0,1,0,0,15,31,63,127,255,127,127,127,3199,7295,15487,32767,65535,131071,262143]
theorem laws_FnKeys.tab14 : rtab .any (opsOf Try.f3 14) = laws_FnKeys.T14:=by kernel_rfl
theorem laws_FnKeys.bits14 : waitsOk laws_FnKeys.T14.2 laws_FnKeys.B14 = true:=by kernel_rfl
def laws_FnKeys.T15 : Bool × List (List Nat × List Nat):=(true,[([],[]),([0],[0]),([1],[1]),([2],[2]),([3,2],[3]),([4],[4]),([5,4],[4,5]),([6,4],[4,6]),([4,7],[4,7]),([8,4],[8]),([9],[9]),([10,9],[9,10]),([9],[9]),([12,9],[9,12]),([11,13,9],[9,11,13]),([9,14],[9,14]),([15,9],[15]),([16],[16]),([17,16],[16,17]),([18,16],[16,18]),([16],[16]),([20,16],[16,20]),([21,16],[16,21]),([19,22,16],[16,19,22]),([16,23],[16,23]),([24,16],[24]),([25],[25]),([26,25],[25,26]),([27,25],[25,27]),([25],[25]),([29,25],[25,29]),([30,25],[25,30]),([28,31,25],[25,28,31]),([25,32],[25,32]),([33,25],[33]),([34],[34]),([35,34],[34,35]),([36,34],[34,36]),([34],[34]),([38,34],[34,38]),([39,34],[34,39]),([37,40,34],[34,37,40]),([34,41],[34,41]),([42,34],[42]),([43],[43]),([44,43],[43,44]),([45,43,43],[43,45]),([46],[46]),([47,46],[46,47]),([46],[46]),([46],[46]),([50,46],[46,50]),([51,46],[46,51]),([48,49,52,46,46],[46,48,49,52]),([46,53,43],[43,46,53]),([54,53,43],[43,54]),([55],[55]),([56,55],[55,56]),([55],[55]),([55],[55]),([59,55],[55,59]),([60,55],[55,60]),([57,58,61,55,55],[55,57,58,61]),([55,62,43],[43,55,62]),([63,62,43],[43,63]),([64],[64]),([65,64],[64,65]),([64],[64]),([66,67,64,64],[64,66,67]),([68,64],[64,68]),([64],[64]),([70,64],[64,70]),([71,64],[64,71]),([69,72,68,64],[64,69,72]),([64,73,43],[43,64,73]),([43,74],[43,74]),([75,73,0,1,2,3,4,5,6,7,8,9,10,11,12,13,14,15,16,17,18,19,20,21,22,23,24,25,26,27,28,29,30,31,32,33,34,35,36,37,38,39,40,41,42,43,44,45,46,47,48,49,50,51,52,53,54,55,56,57,58,59,60,61,62,63,64,65,66,67,68,69,70,71,72,73,74,75],[75])])
def laws_FnKeys.B15 : List Nat:=[0,1,3,7,15,31,63,127,255,511,1023,2047,1023,5119,16383,32767,65535,131071,262143,524287,131071,1179647,3276799,8388607,16777215,33554431,67108863,134217727,268435455,67108863,603979775,1677721599,4294967295,8589934591,17179869183,34359738367,68719476735,137438953471,34359738367,309237645311,858993459199,2199023255551,4398046511103,8796093022207,17592186044415,35184372088831,70368744177663,140737488355327,281474976710655,140737488355327,140737488355327,1266637395197951,3518437208883199,9007199254740991,18014398509481983,36028797018963967,72057594037927935,144115188075855871,72057594037927935,72057594037927935,648518346341351423,1801439850948198399,4611686018427387903,9223372036854775807,18446744073709551615,36893488147419103231,73786976294838206463,36893488147419103231,295147905179352825855,590295810358705651711,36893488147419103231,1217485108864830406655,3578668350299653013503,9444732965739290427391,18889465931478580854783,37778931862957161709567,75557863725914323419135]
theorem laws_FnKeys.tab15 : rtab .any (opsOf Try.f3 15) = laws_FnKeys.T15:=by kernel_rfl
theorem laws_FnKeys.bits15 : waitsOk laws_FnKeys.T15.2 laws_FnKeys.B15 = true:=by kernel_rfl
abbrev laws_FnKeys.calls.b0 : Array Bool:=#[false,false,false,false,false,false,false,false,false,false,false,false,false,false,false,false,false,false,false,false,false,false,false,false,false,false,false,false,false,false,false,false,false,false,false,false,false,false,false,false,false,false,false,false,false,false,false,false,false,false,false,false,false,false,false,false,false,false,false,false,false,false,false,false,false,false,false,false,false,false,false,false,false,false,false,false,false]
abbrev laws_FnKeys.calls.b1 : Array Bool:=#[false,false,false,false,false,false,false,false,false,false,false,false,false,false,false,false,false,false,false]
abbrev laws_FnKeys.calls.b2 : Array Bool:=#[true,false,false,false,false,false,false,false,false,false,false,false,false,false,false,false,false,false,false,false,false,false,false,false,false,false,false,false,false,false,false,false,false,false,false,false,false,false,false,false,false,false,false,false,false,false,false,false,false,false,false,false,false,false,false,false,false,false,false,false,false,false,false,false,false,false,false,false,false,false,false,false,false,false,false,false,false]
abbrev laws_FnKeys.calls.b3 : Array Bool:=#[true,false,false,false,false,false,false,false,false,false,false,false,false,false,false,false,false,false,false]
abbrev laws_FnKeys.calls.b4 : Array Bool:=#[true,false,true,false,false,false,false,false,false,false,false,false,false,false,false,false,false,false,false]
abbrev laws_FnKeys.calls.b5 : Array Bool:=#[true,false,true,true,false,false,false,false,false,false,false,false,false,false,false,false,false,false,false]
abbrev laws_FnKeys.calls.b6 : Array Bool:=#[true,true,false,false,false,false,false,false,false,false,false,false,false,false,false,false,false,false,false,false,false,false,false,false,false,false,false,false,false,false,false,false,false,false,false,false,false,false,false,false,false,false,false,false,false,false,false,false,false,false,false,false,false,false,false,false,false,false,false,false,false,false,false,false,false,false,false,false,false,false,false,false,false,false,false,false,false]
abbrev laws_FnKeys.calls.b7 : Array Bool:=#[true,true,true,false,false,false,false,false,false,false,false,false,false,false,false,false,false,false,false,false,false,false,false,false,false,false,false,false,false,false,false,false,false,false,false,false,false,false,false,false,false,false,false,false,false,false,false,false,false,false,false,false,false,false,false,false,false,false,false,false,false,false,false,false,false,false,false,false,false,false,false,false,false,false,false,false,false]
abbrev laws_FnKeys.calls.b8 : Array Bool:=#[true,true,true,true,false,false,false,false,false,false,false,false,false,false,false,false,false,false,false,false,false,false,false,false,false,false,false,false,false,false,false,false,false,false,false,false,false,false,false,false,false,false,false,false,false,false,false,false,false,false,false,false,false,false,false,false,false,false,false,false,false,false,false,false,false,false,false,false,false,false,false,false,false,false,false,false,false]
abbrev laws_FnKeys.calls.b9 : Array Bool:=#[true,true,true,true,false,false,false,false,false,false,false,false,false,false,false,false,false,false,false]
abbrev laws_FnKeys.calls.b10 : Array Bool:=#[true,true,true,true,true,false,false,false,false,false,false,false,false,false,false,false,false,false,false,false,false,false,false,false,false,false,false,false,false,false,false,false,false,false,false,false,false,false,false,false,false,false,false,false,false,false,false,false,false,false,false,false,false,false,false,false,false,false,false,false,false,false,false,false,false,false,false,false,false,false,false,false,false,false,false,false,false]
abbrev laws_FnKeys.calls.b11 : Array Bool:=#[true,true,true,true,true,false,false,false,false,false,false,false,false,false,false,false,false,false,false]
abbrev laws_FnKeys.calls.b12 : Array Bool:=#[true,true,true,true,true,true,false,false,false,false,false,false,false,false,false,false,false,false,false,false,false,false,false,false,false,false,false,false,false,false,false,false,false,false,false,false,false,false,false,false,false,false,false,false,false,false,false,false,false,false,false,false,false,false,false,false,false,false,false,false,false,false,false,false,false,false,false,false,false,false,false,false,false,false,false,false,false]
abbrev laws_FnKeys.calls.b13 : Array Bool:=#[true,true,true,true,true,true,false,false,false,false,false,false,false,false,false,false,false,false,false]
abbrev laws_FnKeys.calls.b14 : Array Bool:=#[true,true,true,true,true,true,true,false,false,false,false,false,false,false,false,false,false,false,false,false,false,false,false,false,false,false,false,false,false,false,false,false,false,false,false,false,false,false,false,false,false,false,false,false,false,false,false,false,false,false,false,false,false,false,false,false,false,false,false,false,false,false,false,false,false,false,false,false,false,false,false,false,false,false,false,false,false]
abbrev laws_FnKeys.calls.b15 : Array Bool:=#[true,true,true,true,true,true,true,false,false,false,false,false,false,false,false,false,false,false,false]
abbrev laws_FnKeys.calls.b16 : Array Bool:=#[true,true,true,true,true,true,true,true,false,false,false,false,false,false,false,false,false,false,false,false,false,false,false,false,false,false,false,false,false,false,false,false,false,false,false,false,false,false,false,false,false,false,false,false,false,false,false,false,false,false,false,false,false,false,false,false,false,false,false,false,false,false,false,false,false,false,false,false,false,false,false,false,false,false,false,false,false]
abbrev laws_FnKeys.calls.b17 : Array Bool:=#[true,true,true,true,true,true,true,true,false,false,false,false,false,false,false,false,false,false,false]
abbrev laws_FnKeys.calls.b18 : Array Bool:=#[true,true,true,true,true,true,true,true,true,false,false,false,false,false,false,false,false,false,false,false,false,false,false,false,false,false,false,false,false,false,false,false,false,false,false,false,false,false,false,false,false,false,false,false,false,false,false,false,false,false,false,false,false,false,false,false,false,false,false,false,false,false,false,false,false,false,false,false,false,false,false,false,false,false,false,false,false]
abbrev laws_FnKeys.calls.b19 : Array Bool:=#[true,true,true,true,true,true,true,true,true,true,false,false,false,false,false,false,false,false,false,false,false,false,false,false,false,false,false,false,false,false,false,false,false,false,false,false,false,false,false,false,false,false,false,false,false,false,false,false,false,false,false,false,false,false,false,false,false,false,false,false,false,false,false,false,false,false,false,false,false,false,false,false,false,false,false,false,false]
abbrev laws_FnKeys.calls.b20 : Array Bool:=#[true,true,true,true,true,true,true,true,true,true,true,false,false,false,false,false,false,false,false,false,false,false,false,false,false,false,false,false,false,false,false,false,false,false,false,false,false,false,false,false,false,false,false,false,false,false,false,false,false,false,false,false,false,false,false,false,false,false,false,false,false,false,false,false,false,false,false,false,false,false,false,false,false,false,false,false,false]
abbrev laws_FnKeys.calls.b21 : Array Bool:=#[true,true,true,true,true,true,true,true,true,true,true,false,true,false,false,false,false,false,false,false,false,false,false,false,false,false,false,false,false,false,false,false,false,false,false,false,false,false,false,false,false,false,false,false,false,false,false,false,false,false,false,false,false,false,false,false,false,false,false,false,false,false,false,false,false,false,false,false,false,false,false,false,false,false,false,false,false]
abbrev laws_FnKeys.calls.b22 : Array Bool:=#[true,true,true,true,true,true,true,true,true,true,true,true,true,false,false,false,false,false,false,false,false,false,false,false,false,false,false,false,false,false,false,false,false,false,false,false,false,false,false,false,false,false,false,false,false,false,false,false,false,false,false,false,false,false,false,false,false,false,false,false,false,false,false,false,false,false,false,false,false,false,false,false,false,false,false,false,false]
abbrev laws_FnKeys.calls.b23 : Array Bool:=#[true,true,true,true,true,true,true,true,true,true,true,true,true,true,false,false,false,false,false,false,false,false,false,false,false,false,false,false,false,false,false,false,false,false,false,false,false,false,false,false,false,false,false,false,false,false,false,false,false,false,false,false,false,false,false,false,false,false,false,false,false,false,false,false,false,false,false,false,false,false,false,false,false,false,false,false,false]
abbrev laws_FnKeys.calls.b24 : Array Bool:=#[true,true,true,true,true,true,true,true,true,true,true,true,true,true,false,false,false,false,false]
abbrev laws_FnKeys.calls.b25 : Array Bool:=#[true,true,true,true,true,true,true,true,true,true,true,true,true,true,true,false,false,false,false,false,false,false,false,false,false,false,false,false,false,false,false,false,false,false,false,false,false,false,false,false,false,false,false,false,false,false,false,false,false,false,false,false,false,false,false,false,false,false,false,false,false,false,false,false,false,false,false,false,false,false,false,false,false,false,false,false,false]
abbrev laws_FnKeys.calls.b26 : Array Bool:=#[true,true,true,true,true,true,true,true,true,true,true,true,true,true,true,false,false,false,false]
abbrev laws_FnKeys.calls.b27 : Array Bool:=#[true,true,true,true,true,true,true,true,true,true,true,true,true,true,true,false]
abbrev laws_FnKeys.calls.b28 : Array Bool:=#[true,true,true,true,true,true,true,true,true,true,true,true,true,true,true,true,false,false,false,false,false,false,false,false,false,false,false,false,false,false,false,false,false,false,false,false,false,false,false,false,false,false,false,false,false,false,false,false,false,false,false,false,false,false,false,false,false,false,false,false,false,false,false,false,false,false,false,false,false,false,false,false,false,false,false,false,false]
abbrev laws_FnKeys.calls.b29 : Array Bool:=#[true,true,true,true,true,true,true,true,true,true,true,true,true,true,true,true,false,false,false]
abbrev laws_FnKeys.calls.b30 : Array Bool:=#[true,true,true,true,true,true,true,true,true,true,true,true,true,true,true,true,true,false,false,false,false,false,false,false,false,false,false,false,false,false,false,false,false,false,false,false,false,false,false,false,false,false,false,false,false,false,false,false,false,false,false,false,false,false,false,false,false,false,false,false,false,false,false,false,false,false,false,false,false,false,false,false,false,false,false,false,false]
abbrev laws_FnKeys.calls.b31 : Array Bool:=#[true,true,true,true,true,true,true,true,true,true,true,true,true,true,true,true,true,false,false]
abbrev laws_FnKeys.calls.b32 : Array Bool:=#[true,true,true,true,true,true,true,true,true,true,true,true,true,true,true,true,true,true,false,false,false,false,false,false,false,false,false,false,false,false,false,false,false,false,false,false,false,false,false,false,false,false,false,false,false,false,false,false,false,false,false,false,false,false,false,false,false,false,false,false,false,false,false,false,false,false,false,false,false,false,false,false,false,false,false,false,false]
abbrev laws_FnKeys.calls.b33 : Array Bool:=#[true,true,true,true,true,true,true,true,true,true,true,true,true,true,true,true,true,true,false,false,true,false,false,false,false,false,false,false,false,false,false,false,false,false,false,false,false,false,false,false,false,false,false,false,false,false,false,false,false,false,false,false,false,false,false,false,false,false,false,false,false,false,false,false,false,false,false,false,false,false,false,false,false,false,false,false,false]
abbrev laws_FnKeys.calls.b34 : Array Bool:=#[true,true,true,true,true,true,true,true,true,true,true,true,true,true,true,true,true,true,false]
abbrev laws_FnKeys.calls.b35 : Array Bool:=#[true,true,true,true,true,true,true,true,true,true,true,true,true,true,true,true,true,true,true,false,true,false,false,false,false,false,false,false,false,false,false,false,false,false,false,false,false,false,false,false,false,false,false,false,false,false,false,false,false,false,false,false,false,false,false,false,false,false,false,false,false,false,false,false,false,false,false,false,false,false,false,false,false,false,false,false,false]
abbrev laws_FnKeys.calls.b36 : Array Bool:=#[true,true,true,true,true,true,true,true,true,true,true,true,true,true,true,true,true,true,true,true,true,false,false,false,false,false,false,false,false,false,false,false,false,false,false,false,false,false,false,false,false,false,false,false,false,false,false,false,false,false,false,false,false,false,false,false,false,false,false,false,false,false,false,false,false,false,false,false,false,false,false,false,false,false,false,false,false]
abbrev laws_FnKeys.calls.b37 : Array Bool:=#[true,true,true,true,true,true,true,true,true,true,true,true,true,true,true,true,true,true,true,true,true,true,false,false,false,false,false,false,false,false,false,false,false,false,false,false,false,false,false,false,false,false,false,false,false,false,false,false,false,false,false,false,false,false,false,false,false,false,false,false,false,false,false,false,false,false,false,false,false,false,false,false,false,false,false,false,false]
abbrev laws_FnKeys.calls.b38 : Array Bool:=#[true,true,true,true,true,true,true,true,true,true,true,true,true,true,true,true,true,true,true,true,true,true,true,false,false,false,false,false,false,false,false,false,false,false,false,false,false,false,false,false,false,false,false,false,false,false,false,false,false,false,false,false,false,false,false,false,false,false,false,false,false,false,false,false,false,false,false,false,false,false,false,false,false,false,false,false,false]
abbrev laws_FnKeys.calls.b39 : Array Bool:=#[true,true,true,true,true,true,true,true,true,true,true,true,true,true,true,true,true,true,true,true,true,true,true,true,false,false,false,false,false,false,false,false,false,false,false,false,false,false,false,false,false,false,false,false,false,false,false,false,false,false,false,false,false,false,false,false,false,false,false,false,false,false,false,false,false,false,false,false,false,false,false,false,false,false,false,false,false]
abbrev laws_FnKeys.calls.b40 : Array Bool:=#[true,true,true,true,true,true,true,true,true,true,true,true,true,true,true,true,true,true,true,true,true,true,true,true,true,false,false,false,false,false,false,false,false,false,false,false,false,false,false,false,false,false,false,false,false,false,false,false,false,false,false,false,false,false,false,false,false,false,false,false,false,false,false,false,false,false,false,false,false,false,false,false,false,false,false,false,false]
abbrev laws_FnKeys.calls.b41 : Array Bool:=#[true,true,true,true,true,true,true,true,true,true,true,true,true,true,true,true,true,true,true,true,true,true,true,true,true,true,false,false,false,false,false,false,false,false,false,false,false,false,false,false,false,false,false,false,false,false,false,false,false,false,false,false,false,false,false,false,false,false,false,false,false,false,false,false,false,false,false,false,false,false,false,false,false,false,false,false,false]
abbrev laws_FnKeys.calls.b42 : Array Bool:=#[true,true,true,true,true,true,true,true,true,true,true,true,true,true,true,true,true,true,true,true,true,true,true,true,true,true,true,false,false,false,false,false,false,false,false,false,false,false,false,false,false,false,false,false,false,false,false,false,false,false,false,false,false,false,false,false,false,false,false,false,false,false,false,false,false,false,false,false,false,false,false,false,false,false,false,false,false]
abbrev laws_FnKeys.calls.b43 : Array Bool:=#[true,true,true,true,true,true,true,true,true,true,true,true,true,true,true,true,true,true,true,true,true,true,true,true,true,true,true,true,false,false,false,false,false,false,false,false,false,false,false,false,false,false,false,false,false,false,false,false,false,false,false,false,false,false,false,false,false,false,false,false,false,false,false,false,false,false,false,false,false,false,false,false,false,false,false,false,false]
abbrev laws_FnKeys.calls.b44 : Array Bool:=#[true,true,true,true,true,true,true,true,true,true,true,true,true,true,true,true,true,true,true,true,true,true,true,true,true,true,true,true,false,true,false,false,false,false,false,false,false,false,false,false,false,false,false,false,false,false,false,false,false,false,false,false,false,false,false,false,false,false,false,false,false,false,false,false,false,false,false,false,false,false,false,false,false,false,false,false,false]
abbrev laws_FnKeys.calls.b45 : Array Bool:=#[true,true,true,true,true,true,true,true,true,true,true,true,true,true,true,true,true,true,true,true,true,true,true,true,true,true,true,true,false,true,true,false,false,false,false,false,false,false,false,false,false,false,false,false,false,false,false,false,false,false,false,false,false,false,false,false,false,false,false,false,false,false,false,false,false,false,false,false,false,false,false,false,false,false,false,false,false]
abbrev laws_FnKeys.calls.b46 : Array Bool:=#[true,true,true,true,true,true,true,true,true,true,true,true,true,true,true,true,true,true,true,true,true,true,true,true,true,true,true,true,true,true,true,false,false,false,false,false,false,false,false,false,false,false,false,false,false,false,false,false,false,false,false,false,false,false,false,false,false,false,false,false,false,false,false,false,false,false,false,false,false,false,false,false,false,false,false,false,false]
abbrev laws_FnKeys.calls.b47 : Array Bool:=#[true,true,true,true,true,true,true,true,true,true,true,true,true,true,true,true,true,true,true,true,true,true,true,true,true,true,true,true,true,true,true,true,false,false,false,false,false,false,false,false,false,false,false,false,false,false,false,false,false,false,false,false,false,false,false,false,false,false,false,false,false,false,false,false,false,false,false,false,false,false,false,false,false,false,false,false,false]
abbrev laws_FnKeys.calls.b48 : Array Bool:=#[true,true,true,true,true,true,true,true,true,true,true,true,true,true,true,true,true,true,true,true,true,true,true,true,true,true,true,true,true,true,true,true,true,false,false,false,false,false,false,false,false,false,false,false,false,false,false,false,false,false,false,false,false,false,false,false,false,false,false,false,false,false,false,false,false,false,false,false,false,false,false,false,false,false,false,false,false]
abbrev laws_FnKeys.calls.b49 : Array Bool:=#[true,true,true,true,true,true,true,true,true,true,true,true,true,true,true,true,true,true,true,true,true,true,true,true,true,true,true,true,true,true,true,true,true,true,false,false,false,false,false,false,false,false,false,false,false,false,false,false,false,false,false,false,false,false,false,false,false,false,false,false,false,false,false,false,false,false,false,false,false,false,false,false,false,false,false,false,false]
abbrev laws_FnKeys.calls.b50 : Array Bool:=#[true,true,true,true,true,true,true,true,true,true,true,true,true,true,true,true,true,true,true,true,true,true,true,true,true,true,true,true,true,true,true,true,true,true,true,false,false,false,false,false,false,false,false,false,false,false,false,false,false,false,false,false,false,false,false,false,false,false,false,false,false,false,false,false,false,false,false,false,false,false,false,false,false,false,false,false,false]
abbrev laws_FnKeys.calls.b51 : Array Bool:=#[true,true,true,true,true,true,true,true,true,true,true,true,true,true,true,true,true,true,true,true,true,true,true,true,true,true,true,true,true,true,true,true,true,true,true,true,false,false,false,false,false,false,false,false,false,false,false,false,false,false,false,false,false,false,false,false,false,false,false,false,false,false,false,false,false,false,false,false,false,false,false,false,false,false,false,false,false]
abbrev laws_FnKeys.calls.b52 : Array Bool:=#[true,true,true,true,true,true,true,true,true,true,true,true,true,true,true,true,true,true,true,true,true,true,true,true,true,true,true,true,true,true,true,true,true,true,true,true,true,false,false,false,false,false,false,false,false,false,false,false,false,false,false,false,false,false,false,false,false,false,false,false,false,false,false,false,false,false,false,false,false,false,false,false,false,false,false,false,false]
abbrev laws_FnKeys.calls.b53 : Array Bool:=#[true,true,true,true,true,true,true,true,true,true,true,true,true,true,true,true,true,true,true,true,true,true,true,true,true,true,true,true,true,true,true,true,true,true,true,true,true,false,true,false,false,false,false,false,false,false,false,false,false,false,false,false,false,false,false,false,false,false,false,false,false,false,false,false,false,false,false,false,false,false,false,false,false,false,false,false,false]
abbrev laws_FnKeys.calls.b54 : Array Bool:=#[true,true,true,true,true,true,true,true,true,true,true,true,true,true,true,true,true,true,true,true,true,true,true,true,true,true,true,true,true,true,true,true,true,true,true,true,true,false,true,true,false,false,false,false,false,false,false,false,false,false,false,false,false,false,false,false,false,false,false,false,false,false,false,false,false,false,false,false,false,false,false,false,false,false,false,false,false]
abbrev laws_FnKeys.calls.b55 : Array Bool:=#[true,true,true,true,true,true,true,true,true,true,true,true,true,true,true,true,true,true,true,true,true,true,true,true,true,true,true,true,true,true,true,true,true,true,true,true,true,true,true,true,false,false,false,false,false,false,false,false,false,false,false,false,false,false,false,false,false,false,false,false,false,false,false,false,false,false,false,false,false,false,false,false,false,false,false,false,false]
abbrev laws_FnKeys.calls.b56 : Array Bool:=#[true,true,true,true,true,true,true,true,true,true,true,true,true,true,true,true,true,true,true,true,true,true,true,true,true,true,true,true,true,true,true,true,true,true,true,true,true,true,true,true,true,false,false,false,false,false,false,false,false,false,false,false,false,false,false,false,false,false,false,false,false,false,false,false,false,false,false,false,false,false,false,false,false,false,false,false,false]
abbrev laws_FnKeys.calls.b57 : Array Bool:=#[true,true,true,true,true,true,true,true,true,true,true,true,true,true,true,true,true,true,true,true,true,true,true,true,true,true,true,true,true,true,true,true,true,true,true,true,true,true,true,true,true,true,false,false,false,false,false,false,false,false,false,false,false,false,false,false,false,false,false,false,false,false,false,false,false,false,false,false,false,false,false,false,false,false,false,false,false]
abbrev laws_FnKeys.calls.b58 : Array Bool:=#[true,true,true,true,true,true,true,true,true,true,true,true,true,true,true,true,true,true,true,true,true,true,true,true,true,true,true,true,true,true,true,true,true,true,true,true,true,true,true,true,true,true,true,false,false,false,false,false,false,false,false,false,false,false,false,false,false,false,false,false,false,false,false,false,false,false,false,false,false,false,false,false,false,false,false,false,false]
abbrev laws_FnKeys.calls.b59 : Array Bool:=#[true,true,true,true,true,true,true,true,true,true,true,true,true,true,true,true,true,true,true,true,true,true,true,true,true,true,true,true,true,true,true,true,true,true,true,true,true,true,true,true,true,true,true,true,false,false,false,false,false,false,false,false,false,false,false,false,false,false,false,false,false,false,false,false,false,false,false,false,false,false,false,false,false,false,false,false,false]
abbrev laws_FnKeys.calls.b60 : Array Bool:=#[true,true,true,true,true,true,true,true,true,true,true,true,true,true,true,true,true,true,true,true,true,true,true,true,true,true,true,true,true,true,true,true,true,true,true,true,true,true,true,true,true,true,true,true,true,false,false,false,false,false,false,false,false,false,false,false,false,false,false,false,false,false,false,false,false,false,false,false,false,false,false,false,false,false,false,false,false]
abbrev laws_FnKeys.calls.b61 : Array Bool:=#[true,true,true,true,true,true,true,true,true,true,true,true,true,true,true,true,true,true,true,true,true,true,true,true,true,true,true,true,true,true,true,true,true,true,true,true,true,true,true,true,true,true,true,true,true,true,false,false,false,false,false,false,false,false,false,false,false,false,false,false,false,false,false,false,false,false,false,false,false,false,false,false,false,false,false,false,false]
abbrev laws_FnKeys.calls.b62 : Array Bool:=#[true,true,true,true,true,true,true,true,true,true,true,true,true,true,true,true,true,true,true,true,true,true,true,true,true,true,true,true,true,true,true,true,true,true,true,true,true,true,true,true,true,true,true,true,true,true,true,false,false,false,false,false,false,false,false,false,false,false,false,false,false,false,false,false,false,false,false,false,false,false,false,false,false,false,false,false,false]
abbrev laws_FnKeys.calls.b63 : Array Bool:=#[true,true,true,true,true,true,true,true,true,true,true,true,true,true,true,true,true,true,true,true,true,true,true,true,true,true,true,true,true,true,true,true,true,true,true,true,true,true,true,true,true,true,true,true,true,true,true,true,false,false,false,false,false,false,false,false,false,false,false,false,false,false,false,false,false,false,false,false,false,false,false,false,false,false,false,false,false]
abbrev laws_FnKeys.calls.b64 : Array Bool:=#[true,true,true,true,true,true,true,true,true,true,true,true,true,true,true,true,true,true,true,true,true,true,true,true,true,true,true,true,true,true,true,true,true,true,true,true,true,true,true,true,true,true,true,true,true,true,true,true,false,true,false,false,false,false,false,false,false,false,false,false,false,false,false,false,false,false,false,false,false,false,false,false,false,false,false,false,false]
abbrev laws_FnKeys.calls.b65 : Array Bool:=#[true,true,true,true,true,true,true,true,true,true,true,true,true,true,true,true,true,true,true,true,true,true,true,true,true,true,true,true,true,true,true,true,true,true,true,true,true,true,true,true,true,true,true,true,true,true,true,true,false,true,true,false,false,false,false,false,false,false,false,false,false,false,false,false,false,false,false,false,false,false,false,false,false,false,false,false,false]
abbrev laws_FnKeys.calls.b66 : Array Bool:=#[true,true,true,true,true,true,true,true,true,true,true,true,true,true,true,true,true,true,true,true,true,true,true,true,true,true,true,true,true,true,true,true,true,true,true,true,true,true,true,true,true,true,true,true,true,true,true,true,false,true,true,true,false,false,false,false,false,false,false,false,false,false,false,false,false,false,false,false,false,false,false,false,false,false,false,false,false]
abbrev laws_FnKeys.calls.b67 : Array Bool:=#[true,true,true,true,true,true,true,true,true,true,true,true,true,true,true,true,true,true,true,true,true,true,true,true,true,true,true,true,true,true,true,true,true,true,true,true,true,true,true,true,true,true,true,true,true,true,true,true,true,true,true,true,false,false,false,false,false,false,false,false,false,false,false,false,false,false,false,false,false,false,false,false,false,false,false,false,false]
abbrev laws_FnKeys.calls.b68 : Array Bool:=#[true,true,true,true,true,true,true,true,true,true,true,true,true,true,true,true,true,true,true,true,true,true,true,true,true,true,true,true,true,true,true,true,true,true,true,true,true,true,true,true,true,true,true,true,true,true,true,true,true,true,true,true,true,false,false,false,false,false,false,false,false,false,false,false,false,false,false,false,false,false,false,false,false,false,false,false,false]
abbrev laws_FnKeys.calls.b69 : Array Bool:=#[true,true,true,true,true,true,true,true,true,true,true,true,true,true,true,true,true,true,true,true,true,true,true,true,true,true,true,true,true,true,true,true,true,true,true,true,true,true,true,true,true,true,true,true,true,true,true,true,true,true,true,true,true,true,false,false,false,false,false,false,false,false,false,false,false,false,false,false,false,false,false,false,false,false,false,false,false]
abbrev laws_FnKeys.calls.b70 : Array Bool:=#[true,true,true,true,true,true,true,true,true,true,true,true,true,true,true,true,true,true,true,true,true,true,true,true,true,true,true,true,true,true,true,true,true,true,true,true,true,true,true,true,true,true,true,true,true,true,true,true,true,true,true,true,true,true,true,false,false,false,false,false,false,false,false,false,false,false,false,false,false,false,false,false,false,false,false,false,false]
abbrev laws_FnKeys.calls.b71 : Array Bool:=#[true,true,true,true,true,true,true,true,true,true,true,true,true,true,true,true,true,true,true,true,true,true,true,true,true,true,true,true,true,true,true,true,true,true,true,true,true,true,true,true,true,true,true,true,true,true,true,true,true,true,true,true,true,true,true,true,false,false,false,false,false,false,false,false,false,false,false,false,false,false,false,false,false,false,false,false,false]
abbrev laws_FnKeys.calls.b72 : Array Bool:=#[true,true,true,true,true,true,true,true,true,true,true,true,true,true,true,true,true,true,true,true,true,true,true,true,true,true,true,true,true,true,true,true,true,true,true,true,true,true,true,true,true,true,true,true,true,true,true,true,true,true,true,true,true,true,true,true,true,false,false,false,false,false,false,false,false,false,false,false,false,false,false,false,false,false,false,false,false]
abbrev laws_FnKeys.calls.b73 : Array Bool:=#[true,true,true,true,true,true,true,true,true,true,true,true,true,true,true,true,true,true,true,true,true,true,true,true,true,true,true,true,true,true,true,true,true,true,true,true,true,true,true,true,true,true,true,true,true,true,true,true,true,true,true,true,true,true,true,true,true,false,true,false,false,false,false,false,false,false,false,false,false,false,false,false,false,false,false,false,false]
abbrev laws_FnKeys.calls.b74 : Array Bool:=#[true,true,true,true,true,true,true,true,true,true,true,true,true,true,true,true,true,true,true,true,true,true,true,true,true,true,true,true,true,true,true,true,true,true,true,true,true,true,true,true,true,true,true,true,true,true,true,true,true,true,true,true,true,true,true,true,true,false,true,true,false,false,false,false,false,false,false,false,false,false,false,false,false,false,false,false,false]
abbrev laws_FnKeys.calls.b75 : Array Bool:=#[true,true,true,true,true,true,true,true,true,true,true,true,true,true,true,true,true,true,true,true,true,true,true,true,true,true,true,true,true,true,true,true,true,true,true,true,true,true,true,true,true,true,true,true,true,true,true,true,true,true,true,true,true,true,true,true,true,false,true,true,true,false,false,false,false,false,false,false,false,false,false,false,false,false,false,false,false]
abbrev laws_FnKeys.calls.b76 : Array Bool:=#[true,true,true,true,true,true,true,true,true,true,true,true,true,true,true,true,true,true,true,true,true,true,true,true,true,true,true,true,true,true,true,true,true,true,true,true,true,true,true,true,true,true,true,true,true,true,true,true,true,true,true,true,true,true,true,true,true,true,false,false,false,false,false,false,false,false,false,false,false,false,false,false,false,false,false,false,false]
abbrev laws_FnKeys.calls.b77 : Array Bool:=#[true,true,true,true,true,true,true,true,true,true,true,true,true,true,true,true,true,true,true,true,true,true,true,true,true,true,true,true,true,true,true,true,true,true,true,true,true,true,true,true,true,true,true,true,true,true,true,true,true,true,true,true,true,true,true,true,true,true,true,false,false,false,false,false,false,false,false,false,false,false,false,false,false,false,false,false,false]
abbrev laws_FnKeys.calls.b78 : Array Bool:=#[true,true,true,true,true,true,true,true,true,true,true,true,true,true,true,true,true,true,true,true,true,true,true,true,true,true,true,true,true,true,true,true,true,true,true,true,true,true,true,true,true,true,true,true,true,true,true,true,true,true,true,true,true,true,true,true,true,true,true,true,false,false,false,false,false,false,false,false,false,false,false,false,false,false,false,false,false]
abbrev laws_FnKeys.calls.b79 : Array Bool:=#[true,true,true,true,true,true,true,true,true,true,true,true,true,true,true,true,true,true,true,true,true,true,true,true,true,true,true,true,true,true,true,true,true,true,true,true,true,true,true,true,true,true,true,true,true,true,true,true,true,true,true,true,true,true,true,true,true,true,true,true,true,false,false,false,false,false,false,false,false,false,false,false,false,false,false,false,false]
abbrev laws_FnKeys.calls.b80 : Array Bool:=#[true,true,true,true,true,true,true,true,true,true,true,true,true,true,true,true,true,true,true,true,true,true,true,true,true,true,true,true,true,true,true,true,true,true,true,true,true,true,true,true,true,true,true,true,true,true,true,true,true,true,true,true,true,true,true,true,true,true,true,true,true,true,false,false,false,false,false,false,false,false,false,false,false,false,false,false,false]
abbrev laws_FnKeys.calls.b81 : Array Bool:=#[true,true,true,true,true,true,true,true,true,true,true,true,true,true,true,true,true,true,true,true,true,true,true,true,true,true,true,true,true,true,true,true,true,true,true,true,true,true,true,true,true,true,true,true,true,true,true,true,true,true,true,true,true,true,true,true,true,true,true,true,true,true,true,false,false,false,false,false,false,false,false,false,false,false,false,false,false]
abbrev laws_FnKeys.calls.b82 : Array Bool:=#[true,true,true,true,true,true,true,true,true,true,true,true,true,true,true,true,true,true,true,true,true,true,true,true,true,true,true,true,true,true,true,true,true,true,true,true,true,true,true,true,true,true,true,true,true,true,true,true,true,true,true,true,true,true,true,true,true,true,true,true,true,true,true,true,false,false,false,false,false,false,false,false,false,false,false,false,false]
abbrev laws_FnKeys.calls.b83 : Array Bool:=#[true,true,true,true,true,true,true,true,true,true,true,true,true,true,true,true,true,true,true,true,true,true,true,true,true,true,true,true,true,true,true,true,true,true,true,true,true,true,true,true,true,true,true,true,true,true,true,true,true,true,true,true,true,true,true,true,true,true,true,true,true,true,true,true,true,false,false,false,false,false,false,false,false,false,false,false,false]
abbrev laws_FnKeys.calls.b84 : Array Bool:=#[true,true,true,true,true,true,true,true,true,true,true,true,true,true,true,true,true,true,true,true,true,true,true,true,true,true,true,true,true,true,true,true,true,true,true,true,true,true,true,true,true,true,true,true,true,true,true,true,true,true,true,true,true,true,true,true,true,true,true,true,true,true,true,true,true,true,false,false,false,false,false,false,false,false,false,false,false]
abbrev laws_FnKeys.calls.b85 : Array Bool:=#[true,true,true,true,true,true,true,true,true,true,true,true,true,true,true,true,true,true,true,true,true,true,true,true,true,true,true,true,true,true,true,true,true,true,true,true,true,true,true,true,true,true,true,true,true,true,true,true,true,true,true,true,true,true,true,true,true,true,true,true,true,true,true,true,true,true,true,false,false,false,false,false,false,false,false,false,false]
abbrev laws_FnKeys.calls.b86 : Array Bool:=#[true,true,true,true,true,true,true,true,true,true,true,true,true,true,true,true,true,true,true,true,true,true,true,true,true,true,true,true,true,true,true,true,true,true,true,true,true,true,true,true,true,true,true,true,true,true,true,true,true,true,true,true,true,true,true,true,true,true,true,true,true,true,true,true,true,true,true,true,false,false,false,false,false,false,false,false,false]
abbrev laws_FnKeys.calls.b87 : Array Bool:=#[true,true,true,true,true,true,true,true,true,true,true,true,true,true,true,true,true,true,true,true,true,true,true,true,true,true,true,true,true,true,true,true,true,true,true,true,true,true,true,true,true,true,true,true,true,true,true,true,true,true,true,true,true,true,true,true,true,true,true,true,true,true,true,true,true,true,true,true,true,false,false,false,false,false,false,false,false]
abbrev laws_FnKeys.calls.b88 : Array Bool:=#[true,true,true,true,true,true,true,true,true,true,true,true,true,true,true,true,true,true,true,true,true,true,true,true,true,true,true,true,true,true,true,true,true,true,true,true,true,true,true,true,true,true,true,true,true,true,true,true,true,true,true,true,true,true,true,true,true,true,true,true,true,true,true,true,true,true,true,true,true,true,false,false,false,false,false,false,false]
abbrev laws_FnKeys.calls.b89 : Array Bool:=#[true,true,true,true,true,true,true,true,true,true,true,true,true,true,true,true,true,true,true,true,true,true,true,true,true,true,true,true,true,true,true,true,true,true,true,true,true,true,true,true,true,true,true,true,true,true,true,true,true,true,true,true,true,true,true,true,true,true,true,true,true,true,true,true,true,true,true,true,true,true,true,false,false,false,false,false,false]
abbrev laws_FnKeys.calls.b90 : Array Bool:=#[true,true,true,true,true,true,true,true,true,true,true,true,true,true,true,true,true,true,true,true,true,true,true,true,true,true,true,true,true,true,true,true,true,true,true,true,true,true,true,true,true,true,true,true,true,true,true,true,true,true,true,true,true,true,true,true,true,true,true,true,true,true,true,true,true,true,true,true,true,true,true,true,false,false,false,false,false]
abbrev laws_FnKeys.calls.b91 : Array Bool:=#[true,true,true,true,true,true,true,true,true,true,true,true,true,true,true,true,true,true,true,true,true,true,true,true,true,true,true,true,true,true,true,true,true,true,true,true,true,true,true,true,true,true,true,true,true,true,true,true,true,true,true,true,true,true,true,true,true,true,true,true,true,true,true,true,true,true,true,true,true,true,true,true,true,false,false,false,false]
abbrev laws_FnKeys.calls.b92 : Array Bool:=#[true,true,true,true,true,true,true,true,true,true,true,true,true,true,true,true,true,true,true,true,true,true,true,true,true,true,true,true,true,true,true,true,true,true,true,true,true,true,true,true,true,true,true,true,true,true,true,true,true,true,true,true,true,true,true,true,true,true,true,true,true,true,true,true,true,true,true,true,true,true,true,true,true,true,false,false,false]
abbrev laws_FnKeys.calls.b93 : Array Bool:=#[true,true,true,true,true,true,true,true,true,true,true,true,true,true,true,true,true,true,true,true,true,true,true,true,true,true,true,true,true,true,true,true,true,true,true,true,true,true,true,true,true,true,true,true,true,true,true,true,true,true,true,true,true,true,true,true,true,true,true,true,true,true,true,true,true,true,true,true,true,true,true,true,true,true,true,false,false]
abbrev laws_FnKeys.calls.b94 : Array Bool:=#[true,true,true,true,true,true,true,true,true,true,true,true,true,true,true,true,true,true,true,true,true,true,true,true,true,true,true,true,true,true,true,true,true,true,true,true,true,true,true,true,true,true,true,true,true,true,true,true,true,true,true,true,true,true,true,true,true,true,true,true,true,true,true,true,true,true,true,true,true,true,true,true,true,true,true,true,false]
abbrev laws_FnKeys.calls.b95 : Array Bool:=#[true,true,true,true,true,true,true,true,true,true,true,true,true,true,true,true,true,true,true,true,true,true,true,true,true,true,true,true,true,true,true,true,true,true,true,true,true,true,true,true,true,true,true,true,true,true,true,true,true,true,true,true,true,true,true,true,true,true,true,true,true,true,true,true,true,true,true,true,true,true,true,true,true,true,true,true,true]
abbrev laws_FnKeys.calls.b96 : Array Bool:=#[true,true,true,true,true,true,true,true,true,true,true,true,true,true,true,true,true,true,true]
set_option maxHeartbeats 8000000 in
set_option maxRecDepth 100000 in
theorem laws_FnKeys.calls (k : Nat) (A0 : Option Addr) (c0 : Nat) (l0 : List Int) (w : World) (hr0 : Kd.C (Kd.int .u8) w A0 l0.length l0) (hc0 : l0.length ≤ c0) (h : laws_FnKeys.f k l0 = some true) :
  Calls Try.prog 3 #[.slice A0 l0.length c0] w fun e w' => e = .returned (.bool true) ∧ Below w.heap.size w w':=by
 have hu30:=Try.underlying30
 have hu36:=Try.underlying36
 have hu33:=Try.underlying33
 have hu28:=Try.underlying28
 have bh:=Z_ hr0
 have bi:=Z_ hc0
 clear hr0 hc0
 have HB:=Z_ (Below.refl w.heap.size w)
 unfold laws_FnKeys.f at h
 have H:=h
 clear h
 replace H:=bS_ H
 obtain ⟨t349,A2,H⟩:=H
 replace H:=iB_ H
 obtain ⟨rfl,H⟩ | ⟨rfl,H⟩:=H
 ·clear H
  go_enter Try.func3,Try.ntmps3
  go_wp2_with (first | (refine upon_field_ (ty:=2) 0 Try.underlying30 Try.underlying2 rfl rfl rfl ?_) | (refine upon_field_ (ty:=2) 0 Try.underlying33 Try.underlying2 rfl rfl rfl ?_) | (refine upon_field_ (ty:=37) 1 Try.underlying42 Try.underlying37 rfl rfl rfl ?_) | ((with_reducible refine gate_callee (f:=6) rfl ?_);refine goesA_ (some 16) rfl rfl Try.func6 (by kernel_rfl) rfl #[.slice A0 l0.length c0] rfl ?_;(with_reducible refine (laws_lwBig.calls _ _ l0 true _ ?side1 ?side2 A2.out).mono ?_);(case side1 => repeat (first | exact bh.out | (with_reducible refine Kd.C_alloc ?_ _) | (with_reducible refine Kd.C_drewN ?_ _) | (with_reducible refine Kd.C_drew ?_)));(case side2 => exact bi.out);rintro e w' ⟨rfl,⟨nd,rfl⟩⟩;refine ⟨_,rfl,?_⟩))
  go_ret
  exact ⟨by first | rfl | (rw [hr_.out];first | done | rfl) | (simp [errW_none,errW_some] <;> rfl) | (simp [*,errW_none,errW_some] <;> rfl),Lb_⟩
 replace H:=bS_ H
 obtain ⟨⟨t350,t351,t352,t353,t354,t355,t356⟩,A4,H⟩:=H
 try dsimp only at H
 replace H:=bS_ H
 obtain ⟨⟨t359,t360,t361,t362,t363,t364⟩,A5,H⟩:=H
 try dsimp only at H
 replace H:=iC_ H
 obtain ⟨c6,H⟩ | ⟨c6,H⟩:=H
 rotate_left
 ·have c6b0 : (t359 == 0) = false:=beq_eq_false_iff_ne.mpr c6
  have c6b1 : (t359 != 0) = true:=bne_iff_ne.mpr c6
  replace H:=bS_ H
  obtain ⟨⟨t368,t369,t370,t371,t372,t373⟩,cz,H⟩:=H
  try dsimp only at H
  have hr_:=Z_ (Option.some.inj H)
  clear H
  go_enter Try.func3,Try.ntmps3
  try go_wp2_with (first | (refine upon_field_ (ty:=2) 0 Try.underlying30 Try.underlying2 rfl rfl rfl ?_) | (refine upon_field_ (ty:=2) 0 Try.underlying33 Try.underlying2 rfl rfl rfl ?_) | (refine upon_field_ (ty:=37) 1 Try.underlying42 Try.underlying37 rfl rfl rfl ?_) | ((with_reducible refine gate_callee (f:=6) rfl ?_);refine goesA_ (some 16) rfl rfl Try.func6 (by kernel_rfl) rfl #[.slice A0 l0.length c0] rfl ?_;(with_reducible refine (laws_lwBig.calls _ _ l0 false _ ?side1 ?side2 A2.out).mono ?_);(case side1 => repeat (first | exact bh.out | (with_reducible refine Kd.C_alloc ?_ _) | (with_reducible refine Kd.C_drewN ?_ _) | (with_reducible refine Kd.C_drew ?_)));(case side2 => exact bi.out);rintro e w' ⟨rfl,⟨nd,rfl⟩⟩;refine ⟨_,rfl,?_⟩) | ((with_reducible refine gate_callee (f:=7) rfl ?_);refine goesA_ (some 19) rfl rfl Try.func7 (by kernel_rfl) rfl #[.slice A0 l0.length c0] rfl ?_;(with_reducible refine (spec_DrawMakeKeys.calls k _ _ l0 t350 t351 t352 t353 t354 t355 t356 _ ?side1 ?side2 A4.out).mono ?_);(case side1 => repeat (first | exact bh.out | (with_reducible refine Kd.C_alloc ?_ _) | (with_reducible refine Kd.C_drewN ?_ _) | (with_reducible refine Kd.C_drew ?_)));(case side2 => exact bi.out);rintro e w102 ⟨v357,rfl,ho0,hb⟩;refine ⟨_,rfl,?_⟩;have a3:=Z_ (Kd.R_lower ho0 (below_size Lb_));replace HB:=Z_ (lP_ Lb_ hb);(try clear hb);(try clear ho0);obtain ⟨bf,bg,eo103⟩:=Kd.R_slice a3.out;subst eo103) | ((with_reducible refine gate_callee (f:=8) rfl ?_);refine goesA_ (some 34) rfl rfl Try.func8 (by kernel_rfl) rfl #[.slice bf t350.length bg,.int .i64 t351,.int .i64 t352,.int .i64 t353,.int .i64 t354,.int .i64 t355,.int .i64 t356] rfl ?_;(with_reducible refine (impl_MakeKeys.calls k _ _ t350 t351 t352 t353 t354 t355 t356 t359 t360 t361 t362 t363 t364 _ ?side1 ?side2 A5.out).mono ?_);(case side1 => exact Rc_ a3);(case side2 => exact (Kd.R_reads' a3.out).2.1);rintro e w104 ⟨v365,rfl,ho0,hb⟩;refine ⟨_,rfl,?_⟩;have ab:=Z_ (Kd.R_lower (Kd.R_new' ho0 (Kd.R_lt a3.out)) (below_size HB.out));replace a3:=Z_ (Kd.R_elder' a3.out (Kd.R_base ho0) hb);replace HB:=Z_ (lP_ HB.out hb);(try clear hb);(try clear ho0)) | ((with_reducible refine gD_ 10 rfl ?_);(try (refine gate_guard (by rfl) ?_;dsimp only));refine box_event ?hg (N:=10) ?hd (cs:=zs5) (t:=30) ?hr ?_;(case hd => rfl);(case hg => rfl);(case hr => first | (go_simp;done) | (go_simp;rfl));intro a6 hg w105 hbox hb;replace a3:=Z_ (Kd.R_below a3.out hb);replace ab:=Z_ (Kd.R_below ab.out hb);have a1:=Z_ hbox;have af:=Z_ ((by rw [hg];exact (below_size HB.out) : w.heap.size ≤ a6));replace HB:=Z_ (lP_ HB.out hb);clear hb hbox hg;obtain ⟨_,_,_,_,_,_,_,_,_,_,_,_⟩:=bc6 a1.out;obtain ⟨ay,az,eo107⟩:=Kd.R_slice ab.out;subst eo107))
  have n0_ : Aside0 (Kd.R k36 36 ((((((w105.setCell ⟨a6,0,none⟩ (.int .i64 t359)).setCell ⟨a6,1,none⟩ (.int .i64 t360)).setCell ⟨a6,2,none⟩ (.int .i64 t361)).setCell ⟨a6,3,none⟩ (.int .i64 t362)).setCell ⟨a6,4,none⟩ (.int .i64 t363)).setCell ⟨a6,5,none⟩ (.slice ay t364.length az)) w.heap.size (fun k_ => some k_ ≠ (.slice ay t364.length az : Value).ownBlock) (.slice bf t350.length bg) t350):=⟨by (with_reducible repeat first | apply rA_ | apply rN_ | apply rD_);exact Kd.R_mono (rfar6 (g:=a6) (Kd.R_types a3.out a1.out (by decide)) (fun _ hk => hk.2)) (fun _ hk => hk.1.2)⟩
  have n1_ : Aside0 (Kd.R k36 36 ((((((w105.setCell ⟨a6,0,none⟩ (.int .i64 t359)).setCell ⟨a6,1,none⟩ (.int .i64 t360)).setCell ⟨a6,2,none⟩ (.int .i64 t361)).setCell ⟨a6,3,none⟩ (.int .i64 t362)).setCell ⟨a6,4,none⟩ (.int .i64 t363)).setCell ⟨a6,5,none⟩ (.slice ay t364.length az)) w.heap.size (fun k_ => some k_ ≠ (.slice bf t350.length bg : Value).ownBlock) (.slice ay t364.length az) t364):=⟨by (with_reducible repeat first | apply rA_ | apply rN_ | apply rD_);exact Kd.R_mono (rfar6 (g:=a6) (Kd.R_types ab.out a1.out (by decide)) (fun _ hk => hk.2)) (fun _ hk => hk.1.2)⟩
  have n2_ : Aside0 (((((((w105.setCell ⟨a6,0,none⟩ (.int .i64 t359)).setCell ⟨a6,1,none⟩ (.int .i64 t360)).setCell ⟨a6,2,none⟩ (.int .i64 t361)).setCell ⟨a6,3,none⟩ (.int .i64 t362)).setCell ⟨a6,4,none⟩ (.int .i64 t363)).setCell ⟨a6,5,none⟩ (.slice ay t364.length az)).heap[a6]? = some (.cells #[.int .i64 t359,.int .i64 t360,.int .i64 t361,.int .i64 t362,.int .i64 t363,.slice ay t364.length az] 30 (0,0))):=⟨by (with_reducible repeat first | apply bN_ | apply bD_ | apply bA_);apply fill6;(with_reducible repeat first | apply bN_ | apply bD_ | apply bA_);exact a1.out⟩
  have n3_ : Aside0 (Below w.heap.size w ((((((w105.setCell ⟨a6,0,none⟩ (.int .i64 t359)).setCell ⟨a6,1,none⟩ (.int .i64 t360)).setCell ⟨a6,2,none⟩ (.int .i64 t361)).setCell ⟨a6,3,none⟩ (.int .i64 t362)).setCell ⟨a6,4,none⟩ (.int .i64 t363)).setCell ⟨a6,5,none⟩ (.slice ay t364.length az))):=⟨Lb_⟩
  (try clear a3)
  (try clear ab)
  (try clear a1)
  (try clear HB)
  generalize ((((((w105.setCell ⟨a6,0,none⟩ (.int .i64 t359)).setCell ⟨a6,1,none⟩ (.int .i64 t360)).setCell ⟨a6,2,none⟩ (.int .i64 t361)).setCell ⟨a6,3,none⟩ (.int .i64 t362)).setCell ⟨a6,4,none⟩ (.int .i64 t363)).setCell ⟨a6,5,none⟩ (.slice ay t364.length az)) = w108 at n0_ n1_ n2_ n3_ ⊢
  have a3:=n0_
  have ab:=n1_
  have a1:=n2_
  have HB:=n3_
  clear n0_ n1_ n2_ n3_
  replace a3:=Z_ (rD_ a3.out)
  replace ab:=Z_ (rD_ ab.out)
  replace a1:=Z_ (bD_ a1.out)
  replace HB:=Z_ (lD_ HB.out)
  refine start_ (n:=13) (S:=fun w' => w'.cell? ⟨a6,0,none⟩ = some (.int .i64 t359) ∧ w'.cell? ⟨a6,1,none⟩ = some (.int .i64 t360) ∧ w'.cell? ⟨a6,2,none⟩ = some (.int .i64 t361) ∧ w'.cell? ⟨a6,3,none⟩ = some (.int .i64 t362) ∧ w'.cell? ⟨a6,4,none⟩ = some (.int .i64 t363) ∧ w'.cell? ⟨a6,5,none⟩ = some (.slice ay t364.length az)) (ds:=[]) (Bt 13 0) (by kernel_rfl) rfl rfl ⟨(blk_cell a1.out 0).trans rfl,(blk_cell a1.out 1).trans rfl,(blk_cell a1.out 2).trans rfl,(blk_cell a1.out 3).trans rfl,(blk_cell a1.out 4).trans rfl,(blk_cell a1.out 5).trans rfl⟩ (fun hHeld => ?_);refine with_tabW laws_FnKeys.tab6 laws_FnKeys.bits6 (fun HT_ HW_ => ?_)
  generalize w108.drew = w109 at a3 ab a1 HB hHeld ⊢
  refine pu_ 0 (some 38) (Bt 13 1) (any_of HT_.out (by kernel_rfl)) ?_
  refine pu_ 1 (some 39) (Bt 13 3) (any_of HT_.out (by kernel_rfl)) ?_
  refine pu_ 2 (some 40) (Bt 13 7) (any_of HT_.out (by kernel_rfl)) ?_
  refine pu_ 3 (some 41) (Bt 13 15) (any_of HT_.out (by kernel_rfl)) ?_
  refine pu_ 4 (some 42) (Bt 13 31) (any_of HT_.out (by kernel_rfl)) ?_
  refine pu_ 5 (some 43) (Bt 13 63) (any_of HT_.out (by kernel_rfl)) ?_
  refine pu_ 6 (some 44) (Bt 13 127) (any_of HT_.out (by kernel_rfl)) ?_
  refine pu_ 9 (some 47) (Bt 13 639) (any_of HT_.out (by kernel_rfl)) ?_
  refine ta_ 10 (some 48) (Bt 13 1663) (take_ofW HT_.out HW_.out (by kernel_rfl)) hHeld ?_
  refine one_ (i:=7) (N:=some 45) (Bt 13 1791) rfl rfl (one_of HT_.out (by kernel_rfl)) (by decide) (fun K hK => ?_)
  refine goes_ Try.func9 (by kernel_rfl) rfl #[.slice bf t350.length bg,.int .i64 t351,.int .i64 t352,.int .i64 t353,.int .i64 t354,.int .i64 t355,.int .i64 t356] (by rfl) rfl rfl (by (try simp only [List.map_toArray,List.map_cons,List.map_nil]);first | done | rfl | (simp only [List.length_drop,List.length_take];rfl)) ?_
  with_reducible refine (spec_MakeKeys.calls k _ _ t350 t351 t352 t353 t354 t355 t356 t368 t369 t370 t371 t372 t373 _ ?side1 ?side2 cz.out).mono ?_
  (case side1 => exact Rc_ a3)
  (case side2 => exact (Kd.R_reads' a3.out).2.1)
  rintro e w110 ⟨v374,rfl,ho0,hb⟩
  refine ⟨_,rfl,?_⟩
  have n0_:=Z_ (Kd.R_elder' (Rk_ a3) (Kd.R_base ho0) hb)
  have n1_:=Z_ (Kd.R_elder' (Rk_ ab) (Kd.R_base ho0) hb)
  have n2_:=Z_ (Kd.R_lower (Kd.R_new' (Kd.R_new' ho0 (Kd.R_lt (Rk_ a3))) (Kd.R_lt (Rk_ ab))) (below_size Lb_))
  have n3_:=Z_ (bB_ (g:=a6) (o:=.cells #[.int .i64 t359,.int .i64 t360,.int .i64 t361,.int .i64 t362,.int .i64 t363,.slice ay t364.length az] 30 (0,0)) (Bk_ a1) hb)
  have n4_:=Z_ (lP_ Lb_ hb)
  clear a3
  clear ab
  clear a1
  clear HB
  have a3:=n0_
  have ab:=n1_
  have d9:=n2_
  have a1:=n3_
  have HB:=n4_
  clear n0_ n1_ n2_ n3_ n4_
  (try clear hb)
  (try clear hb2)
  (try clear hk)
  (try clear hi)
  (try clear ho0)
  refine hK.out _ _ ⟨(blk_cell a1.out 0).trans rfl,(blk_cell a1.out 1).trans rfl,(blk_cell a1.out 2).trans rfl,(blk_cell a1.out 3).trans rfl,(blk_cell a1.out 4).trans rfl,(blk_cell a1.out 5).trans rfl⟩ (fun hHeld => ?_)
  clear hK K
  refine norm_ (a':=?_) ?_ ?_
  rotate_left
  ·show Act.put _ (some 45) _ = _
   simp only [Act.put,lA_,lZ_,lS_,i64_w,i32_w]
   rfl
  refine pure_ (i:=8) (N:=some 46) (v:=?_) (a':=?_) (Bt 13 2047) rfl rfl (any_of HT_.out (by kernel_rfl)) (fun _ _ _ h => h) (Or.inl ⟨by rfl,?_⟩) ?_ ?_
  rotate_left
  ·intro w'
   go_simp
   first | with_reducible rfl | (apply Eq.trans;apply rfield_ (ty:=2) 0 Try.underlying30 Try.underlying2;exact rfl;exact rfl;exact rfl;with_reducible rfl)
  rotate_left
  ·simp only [Act.put,lA_,lZ_,lS_,i64_w,i32_w]
   rfl
  refine pu_ 11 (some 49) (Bt 13 4095) (any_of HT_.out (by kernel_rfl)) ?_
  refine pu_ 12 (some 2) (Bt 13 8191) (any_of HT_.out (by kernel_rfl)) ?_
  refine done_ (done_of HT_.out (by kernel_rfl)) ?_
  try go_wp2
  go_ret
  exact ⟨by first | rfl | (rw [hr_.out];first | done | rfl) | (simp [errW_none,errW_some] <;> rfl) | (simp [*,errW_none,errW_some] <;> rfl),Lb_⟩
 rotate_right
 have c6b0 : (t359 == 0) = true:=beq_iff_eq.mpr c6
 have c6b1 : (t359 != 0) = false:=bne_eq_false_iff_eq.mpr c6
 clear c6
 replace H:=bS_ H
 obtain ⟨⟨t376,t377,t378⟩,A7,H⟩:=H
 try dsimp only at H
 replace H:=iC_ H
 obtain ⟨c8,H⟩ | ⟨c8,H⟩:=H
 rotate_left
 ·have c8b0 : (t376 == 0) = false:=beq_eq_false_iff_ne.mpr c8
  have c8b1 : (t376 != 0) = true:=bne_iff_ne.mpr c8
  replace H:=bS_ H
  obtain ⟨⟨t382,t383,t384⟩,d3,H⟩:=H
  try dsimp only at H
  have hr_:=Z_ (Option.some.inj H)
  clear H
  go_enter Try.func3,Try.ntmps3
  try go_wp2_with (first | (refine upon_field_ (ty:=2) 0 Try.underlying30 Try.underlying2 rfl rfl rfl ?_) | (refine upon_field_ (ty:=2) 0 Try.underlying33 Try.underlying2 rfl rfl rfl ?_) | (refine upon_field_ (ty:=37) 1 Try.underlying42 Try.underlying37 rfl rfl rfl ?_) | ((with_reducible refine gate_callee (f:=6) rfl ?_);refine goesA_ (some 16) rfl rfl Try.func6 (by kernel_rfl) rfl #[.slice A0 l0.length c0] rfl ?_;(with_reducible refine (laws_lwBig.calls _ _ l0 false _ ?side1 ?side2 A2.out).mono ?_);(case side1 => repeat (first | exact bh.out | (with_reducible refine Kd.C_alloc ?_ _) | (with_reducible refine Kd.C_drewN ?_ _) | (with_reducible refine Kd.C_drew ?_)));(case side2 => exact bi.out);rintro e w' ⟨rfl,⟨nd,rfl⟩⟩;refine ⟨_,rfl,?_⟩) | ((with_reducible refine gate_callee (f:=7) rfl ?_);refine goesA_ (some 19) rfl rfl Try.func7 (by kernel_rfl) rfl #[.slice A0 l0.length c0] rfl ?_;(with_reducible refine (spec_DrawMakeKeys.calls k _ _ l0 t350 t351 t352 t353 t354 t355 t356 _ ?side1 ?side2 A4.out).mono ?_);(case side1 => repeat (first | exact bh.out | (with_reducible refine Kd.C_alloc ?_ _) | (with_reducible refine Kd.C_drewN ?_ _) | (with_reducible refine Kd.C_drew ?_)));(case side2 => exact bi.out);rintro e w87 ⟨v357,rfl,ho0,hb⟩;refine ⟨_,rfl,?_⟩;have a3:=Z_ (Kd.R_lower ho0 (below_size Lb_));replace HB:=Z_ (lP_ Lb_ hb);(try clear hb);(try clear ho0);obtain ⟨bk,bl,eo88⟩:=Kd.R_slice a3.out;subst eo88) | ((with_reducible refine gate_callee (f:=8) rfl ?_);refine goesA_ (some 34) rfl rfl Try.func8 (by kernel_rfl) rfl #[.slice bk t350.length bl,.int .i64 t351,.int .i64 t352,.int .i64 t353,.int .i64 t354,.int .i64 t355,.int .i64 t356] rfl ?_;(with_reducible refine (impl_MakeKeys.calls k _ _ t350 t351 t352 t353 t354 t355 t356 t359 t360 t361 t362 t363 t364 _ ?side1 ?side2 A5.out).mono ?_);(case side1 => exact Rc_ a3);(case side2 => exact (Kd.R_reads' a3.out).2.1);rintro e w89 ⟨v365,rfl,ho0,hb⟩;refine ⟨_,rfl,?_⟩;have ab:=Z_ (Kd.R_lower (Kd.R_new' ho0 (Kd.R_lt a3.out)) (below_size HB.out));replace a3:=Z_ (Kd.R_elder' a3.out (Kd.R_base ho0) hb);replace HB:=Z_ (lP_ HB.out hb);(try clear hb);(try clear ho0)) | ((with_reducible refine gD_ 10 rfl ?_);(try (refine gate_guard (by rfl) ?_;dsimp only));refine box_event ?hg (N:=10) ?hd (cs:=zs5) (t:=30) ?hr ?_;(case hd => rfl);(case hg => rfl);(case hr => first | (go_simp;done) | (go_simp;rfl));intro a6 hg w90 hbox hb;replace a3:=Z_ (Kd.R_below a3.out hb);replace ab:=Z_ (Kd.R_below ab.out hb);have a1:=Z_ hbox;have af:=Z_ ((by rw [hg];exact (below_size HB.out) : w.heap.size ≤ a6));replace HB:=Z_ (lP_ HB.out hb);clear hb hbox hg;obtain ⟨_,_,_,_,_,_,_,_,_,_,_,_⟩:=bc6 a1.out;obtain ⟨bc,bb,eo92⟩:=Kd.R_slice ab.out;subst eo92) | ((with_reducible refine gate_callee (f:=10) rfl ?_);refine goesA_ (some 54) rfl rfl Try.func10 (by kernel_rfl) rfl #[.slice bc t364.length bb,.agg #[.int .i64 6,.int .i64 t353,.int .i64 0,.int .i64 0]] rfl ?_;(with_reducible refine (impl_PutTerm.calls k _ _ t364 6 t353 0 0 t376 t377 t378 _ ?side1 ?side2 A7.out).mono ?_);(case side1 => refine (Kd.R_reads' (e:=36) (base:=w.heap.size) (ok:=fun k_ => (True ∧ some k_ ≠ (.slice bk t350.length bl : Value).ownBlock)) (n:=t364.length) (c:=bb) ?_).2.2;exact (Kd.R_mono (rfar6 (g:=a6) (Kd.R_types ab.out a1.out (by decide)) (fun _ hk => hk.2)) (fun _ h_ => h_.1)));(case side2 => exact (Kd.R_reads' ab.out).2.1);rintro e w93 ⟨v379,rfl,ho0,hb⟩;refine ⟨_,rfl,?_⟩;have ae:=Z_ (Kd.R_lower (Kd.R_new' (Kd.R_new' ho0 (Kd.R_lt (Kd.R_mono (rfar6 (g:=a6) (Kd.R_types a3.out a1.out (by decide)) (fun _ hk => hk.2)) (fun _ h_ => h_.1)))) (Kd.R_lt (Kd.R_mono (rfar6 (g:=a6) (Kd.R_types ab.out a1.out (by decide)) (fun _ hk => hk.2)) (fun _ h_ => h_.1)))) (below_size Lb_));replace a3:=Z_ (Kd.R_elder' (Kd.R_mono (rfar6 (g:=a6) (Kd.R_types a3.out a1.out (by decide)) (fun _ hk => hk.2)) (fun _ h_ => h_.1)) (Kd.R_base ho0) hb);replace ab:=Z_ (Kd.R_elder' (Kd.R_mono (rfar6 (g:=a6) (Kd.R_types ab.out a1.out (by decide)) (fun _ hk => hk.2)) (fun _ h_ => h_.1)) (Kd.R_base ho0) hb);replace a1:=Z_ (bB_ (g:=a6) (o:=.cells #[.int .i64 t359,.int .i64 t360,.int .i64 t361,.int .i64 t362,.int .i64 t363,.slice bc t364.length bb] 30 (0,0)) (by apply fill6;exact a1.out) hb);replace HB:=Z_ (lP_ Lb_ hb);(try clear hb);(try clear ho0)) | ((with_reducible refine gD_ 11 rfl ?_);(try (refine gate_guard (by rfl) ?_;dsimp only));refine box_event ?hg (N:=11) ?hd (cs:=#[.int .i64 0,.int .i64 0,.slice none 0 0]) (t:=33) ?hr ?_;(case hd => rfl);(case hg => rfl);(case hr => first | (go_simp;done) | (go_simp;rfl));intro a7 hg w94 hbox hb;replace a3:=Z_ (Kd.R_below a3.out hb);replace ab:=Z_ (Kd.R_below ab.out hb);replace ae:=Z_ (Kd.R_below ae.out hb);have a2:=Z_ hbox;have aj:=Z_ ((by rw [hg];exact (below_size HB.out) : w.heap.size ≤ a7));replace HB:=Z_ (lP_ HB.out hb);have ba:=Z_ ((by rw [hg];exact Nat.ne_of_lt (blk_lt a1.out) : a6 ≠ a7));replace a1:=Z_ (bB_ a1.out hb);have bd:=Z_ ba.out.symm;clear hb hbox hg;have d6:=bd.out;have d7:=ba.out;obtain ⟨_,_,_,_,_,_⟩:=bc3 a2.out;obtain ⟨av,aw,eo97⟩:=Kd.R_slice ae.out;subst eo97))
  have n0_ : Aside0 (Kd.R k36 36 (((w94.setCell ⟨a7,0,none⟩ (.int .i64 t376)).setCell ⟨a7,1,none⟩ (.int .i64 t377)).setCell ⟨a7,2,none⟩ (.slice av t378.length aw)) w.heap.size (fun k_ => some k_ ≠ (.slice bc t364.length bb : Value).ownBlock ∧ some k_ ≠ (.slice av t378.length aw : Value).ownBlock) (.slice bk t350.length bl) t350):=⟨by (with_reducible repeat first | apply rA_ | apply rN_ | apply rD_);exact Kd.R_mono (rfar3 (g:=a7) (Kd.R_types a3.out a2.out (by decide)) (fun _ hk => hk.2)) (fun _ hk => ⟨hk.1.1.2,hk.1.2⟩)⟩
  have n1_ : Aside0 (Kd.R k36 36 (((w94.setCell ⟨a7,0,none⟩ (.int .i64 t376)).setCell ⟨a7,1,none⟩ (.int .i64 t377)).setCell ⟨a7,2,none⟩ (.slice av t378.length aw)) w.heap.size (fun k_ => some k_ ≠ (.slice bk t350.length bl : Value).ownBlock ∧ some k_ ≠ (.slice av t378.length aw : Value).ownBlock) (.slice bc t364.length bb) t364):=⟨by (with_reducible repeat first | apply rA_ | apply rN_ | apply rD_);exact Kd.R_mono (rfar3 (g:=a7) (Kd.R_types ab.out a2.out (by decide)) (fun _ hk => hk.2)) (fun _ hk => ⟨hk.1.1.2,hk.1.2⟩)⟩
  have n2_ : Aside0 (Kd.R k36 36 (((w94.setCell ⟨a7,0,none⟩ (.int .i64 t376)).setCell ⟨a7,1,none⟩ (.int .i64 t377)).setCell ⟨a7,2,none⟩ (.slice av t378.length aw)) w.heap.size (fun k_ => some k_ ≠ (.slice bk t350.length bl : Value).ownBlock ∧ some k_ ≠ (.slice bc t364.length bb : Value).ownBlock) (.slice av t378.length aw) t378):=⟨by (with_reducible repeat first | apply rA_ | apply rN_ | apply rD_);exact Kd.R_mono (rfar3 (g:=a7) (Kd.R_types ae.out a2.out (by decide)) (fun _ hk => hk.2)) (fun _ hk => ⟨hk.1.1.2,hk.1.2⟩)⟩
  have n3_ : Aside0 ((((w94.setCell ⟨a7,0,none⟩ (.int .i64 t376)).setCell ⟨a7,1,none⟩ (.int .i64 t377)).setCell ⟨a7,2,none⟩ (.slice av t378.length aw)).heap[a6]? = some (.cells #[.int .i64 t359,.int .i64 t360,.int .i64 t361,.int .i64 t362,.int .i64 t363,.slice bc t364.length bb] 30 (0,0))):=⟨by (iterate 3 ((with_reducible repeat first | apply bN_ | apply bD_ | apply bA_);refine bF_ ?_ ba.out _));(with_reducible repeat first | apply bN_ | apply bD_ | apply bA_);exact a1.out⟩
  have n4_ : Aside0 ((((w94.setCell ⟨a7,0,none⟩ (.int .i64 t376)).setCell ⟨a7,1,none⟩ (.int .i64 t377)).setCell ⟨a7,2,none⟩ (.slice av t378.length aw)).heap[a7]? = some (.cells #[.int .i64 t376,.int .i64 t377,.slice av t378.length aw] 33 (0,0))):=⟨by (with_reducible repeat first | apply bN_ | apply bD_ | apply bA_);apply fill3;(with_reducible repeat first | apply bN_ | apply bD_ | apply bA_);exact a2.out⟩
  have n5_ : Aside0 (Below w.heap.size w (((w94.setCell ⟨a7,0,none⟩ (.int .i64 t376)).setCell ⟨a7,1,none⟩ (.int .i64 t377)).setCell ⟨a7,2,none⟩ (.slice av t378.length aw))):=⟨Lb_⟩
  (try clear a3)
  (try clear ab)
  (try clear ae)
  (try clear a1)
  (try clear a2)
  (try clear HB)
  generalize (((w94.setCell ⟨a7,0,none⟩ (.int .i64 t376)).setCell ⟨a7,1,none⟩ (.int .i64 t377)).setCell ⟨a7,2,none⟩ (.slice av t378.length aw)) = w98 at n0_ n1_ n2_ n3_ n4_ n5_ ⊢
  have a3:=n0_
  have ab:=n1_
  have ae:=n2_
  have a1:=n3_
  have a2:=n4_
  have HB:=n5_
  clear n0_ n1_ n2_ n3_ n4_ n5_
  replace a3:=Z_ (rD_ a3.out)
  replace ab:=Z_ (rD_ ab.out)
  replace ae:=Z_ (rD_ ae.out)
  replace a1:=Z_ (bD_ a1.out)
  replace a2:=Z_ (bD_ a2.out)
  replace HB:=Z_ (lD_ HB.out)
  refine start_ (n:=10) (S:=fun w' => w'.cell? ⟨a6,0,none⟩ = some (.int .i64 t359) ∧ w'.cell? ⟨a6,1,none⟩ = some (.int .i64 t360) ∧ w'.cell? ⟨a6,2,none⟩ = some (.int .i64 t361) ∧ w'.cell? ⟨a6,3,none⟩ = some (.int .i64 t362) ∧ w'.cell? ⟨a6,4,none⟩ = some (.int .i64 t363) ∧ w'.cell? ⟨a6,5,none⟩ = some (.slice bc t364.length bb) ∧ w'.cell? ⟨a7,0,none⟩ = some (.int .i64 t376) ∧ w'.cell? ⟨a7,1,none⟩ = some (.int .i64 t377) ∧ w'.cell? ⟨a7,2,none⟩ = some (.slice av t378.length aw)) (ds:=[]) (Bt 10 0) (by kernel_rfl) rfl rfl ⟨(blk_cell a1.out 0).trans rfl,(blk_cell a1.out 1).trans rfl,(blk_cell a1.out 2).trans rfl,(blk_cell a1.out 3).trans rfl,(blk_cell a1.out 4).trans rfl,(blk_cell a1.out 5).trans rfl,(blk_cell a2.out 0).trans rfl,(blk_cell a2.out 1).trans rfl,(blk_cell a2.out 2).trans rfl⟩ (fun hHeld => ?_);refine with_tabW laws_FnKeys.tab9 laws_FnKeys.bits9 (fun HT_ HW_ => ?_)
  generalize w98.drew = w99 at a3 ab ae a1 a2 HB hHeld ⊢
  refine pu_ 0 (some 58) (Bt 10 1) (any_of HT_.out (by kernel_rfl)) ?_
  refine pu_ 2 (some 60) (Bt 10 5) (any_of HT_.out (by kernel_rfl)) ?_
  refine pu_ 3 (some 61) (Bt 10 13) (any_of HT_.out (by kernel_rfl)) ?_
  refine pu_ 6 (some 64) (Bt 10 77) (any_of HT_.out (by kernel_rfl)) ?_
  refine ta_ 1 (some 59) (Bt 10 79) (take_ofW HT_.out HW_.out (by kernel_rfl)) hHeld ?_
  refine ta_ 7 (some 65) (Bt 10 207) (take_ofW HT_.out HW_.out (by kernel_rfl)) hHeld ?_
  refine one_ (i:=4) (N:=some 62) (Bt 10 223) rfl rfl (one_of HT_.out (by kernel_rfl)) (by decide) (fun K hK => ?_)
  refine goes_ Try.func11 (by kernel_rfl) rfl #[.slice bc t364.length bb,.agg #[.int .i64 6,.int .i64 t353,.int .i64 0,.int .i64 0]] (by rfl) rfl rfl (by (try simp only [List.map_toArray,List.map_cons,List.map_nil]);first | done | rfl | (simp only [List.length_drop,List.length_take];rfl)) ?_
  with_reducible refine (spec_PutTerm.calls k _ _ t364 6 t353 0 0 t382 t383 t384 _ ?side1 ?side2 d3.out).mono ?_
  (case side1 => exact Rc_ ab)
  (case side2 => exact (Kd.R_reads' ab.out).2.1)
  rintro e w100 ⟨v385,rfl,ho0,hb⟩
  refine ⟨_,rfl,?_⟩
  have n0_:=Z_ (Kd.R_elder' (Rk_ a3) (Kd.R_base ho0) hb)
  have n1_:=Z_ (Kd.R_elder' (Rk_ ab) (Kd.R_base ho0) hb)
  have n2_:=Z_ (Kd.R_elder' (Rk_ ae) (Kd.R_base ho0) hb)
  have n3_:=Z_ (Kd.R_lower (Kd.R_new' (Kd.R_new' (Kd.R_new' ho0 (Kd.R_lt (Rk_ a3))) (Kd.R_lt (Rk_ ab))) (Kd.R_lt (Rk_ ae))) (below_size Lb_))
  have n4_:=Z_ (bB_ (g:=a6) (o:=.cells #[.int .i64 t359,.int .i64 t360,.int .i64 t361,.int .i64 t362,.int .i64 t363,.slice bc t364.length bb] 30 (0,0)) (Bk_ a1) hb)
  have n5_:=Z_ (bB_ (g:=a7) (o:=.cells #[.int .i64 t376,.int .i64 t377,.slice av t378.length aw] 33 (0,0)) (Bk_ a2) hb)
  have n6_:=Z_ (lP_ Lb_ hb)
  clear a3
  clear ab
  clear ae
  clear a1
  clear a2
  clear HB
  have a3:=n0_
  have ab:=n1_
  have ae:=n2_
  have d8:=n3_
  have a1:=n4_
  have a2:=n5_
  have HB:=n6_
  clear n0_ n1_ n2_ n3_ n4_ n5_ n6_
  (try clear hb)
  (try clear hb2)
  (try clear hk)
  (try clear hi)
  (try clear ho0)
  refine hK.out _ _ ⟨(blk_cell a1.out 0).trans rfl,(blk_cell a1.out 1).trans rfl,(blk_cell a1.out 2).trans rfl,(blk_cell a1.out 3).trans rfl,(blk_cell a1.out 4).trans rfl,(blk_cell a1.out 5).trans rfl,(blk_cell a2.out 0).trans rfl,(blk_cell a2.out 1).trans rfl,(blk_cell a2.out 2).trans rfl⟩ (fun hHeld => ?_)
  clear hK K
  refine norm_ (a':=?_) ?_ ?_
  rotate_left
  ·show Act.put _ (some 62) _ = _
   simp only [Act.put,lA_,lZ_,lS_,i64_w,i32_w]
   rfl
  refine pure_ (i:=5) (N:=some 63) (v:=?_) (a':=?_) (Bt 10 255) rfl rfl (any_of HT_.out (by kernel_rfl)) (fun _ _ _ h => h) (Or.inl ⟨by rfl,?_⟩) ?_ ?_
  rotate_left
  ·intro w'
   go_simp
   first | with_reducible rfl | (apply Eq.trans;apply rfield_ (ty:=2) 0 Try.underlying33 Try.underlying2;exact rfl;exact rfl;exact rfl;with_reducible rfl)
  rotate_left
  ·simp only [Act.put,lA_,lZ_,lS_,i64_w,i32_w]
   rfl
  refine pu_ 8 (some 66) (Bt 10 511) (any_of HT_.out (by kernel_rfl)) ?_
  refine pu_ 9 (some 2) (Bt 10 1023) (any_of HT_.out (by kernel_rfl)) ?_
  refine done_ (done_of HT_.out (by kernel_rfl)) ?_
  try go_wp2
  go_ret
  exact ⟨by first | rfl | (rw [hr_.out];first | done | rfl) | (simp [errW_none,errW_some] <;> rfl) | (simp [*,errW_none,errW_some] <;> rfl),Lb_⟩
 rotate_right
 have c8b0 : (t376 == 0) = true:=beq_iff_eq.mpr c8
 have c8b1 : (t376 != 0) = false:=bne_eq_false_iff_eq.mpr c8
 clear c8
 replace H:=iN_ H
 obtain ⟨c9,H⟩:=H
 have c9b0 : decide (0 ≤ t354) = true:=decide_eq_true c9
 clear c9
 replace H:=iN_ H
 obtain ⟨c10,H⟩:=H
 have c10b0 : decide (t354 < (t350.length : Int)) = true:=decide_eq_true c10
 clear c10
 replace H:=bS_ H
 obtain ⟨⟨t388,t389,t390,t391,t392,t393⟩,cp,H⟩:=H
 try dsimp only at H
 obtain ⟨y397,hy397⟩ : ∃ y_ : List Int,y_ = (([t351] : List Int)):=⟨_,rfl⟩
 replace H : (if t352 > t351 then (if y397.length < 17592186044416 then (laws_FnKeys.j0 k t350 t353 t354 (y397 ++ [t352]) t359 t360 t361 t362 t363 t364 t376 t377 t378 t388 t389 t390 t391 t392 t393) else (none)) else (laws_FnKeys.j0 k t350 t353 t354 y397 t359 t360 t361 t362 t363 t364 t376 t377 t378 t388 t389 t390 t391 t392 t393)) = some true:=by first | (rw [hy397];with_reducible exact H) | (have H2_:=(Option.bind_some _ _).symm.trans H;rw [hy397];with_reducible exact H2_) | (have H2_:=(Option.bind_some _ _).symm.trans H;with_reducible exact H2_) | with_reducible exact H | (rw [hy397];exact H) | exact H
 have br:=Z_ hy397
 clear hy397
 have bn:=Z_ H
 clear H
 go_enter Try.func3,Try.ntmps3
 try go_wp2_with (first | (refine upon_field_ (ty:=2) 0 Try.underlying30 Try.underlying2 rfl rfl rfl ?_) | (refine upon_field_ (ty:=2) 0 Try.underlying33 Try.underlying2 rfl rfl rfl ?_) | (refine upon_field_ (ty:=37) 1 Try.underlying42 Try.underlying37 rfl rfl rfl ?_) | ((with_reducible refine gate_callee (f:=6) rfl ?_);refine goesA_ (some 16) rfl rfl Try.func6 (by kernel_rfl) rfl #[.slice A0 l0.length c0] rfl ?_;(with_reducible refine (laws_lwBig.calls _ _ l0 false _ ?side1 ?side2 A2.out).mono ?_);(case side1 => repeat (first | exact bh.out | (with_reducible refine Kd.C_alloc ?_ _) | (with_reducible refine Kd.C_drewN ?_ _) | (with_reducible refine Kd.C_drew ?_)));(case side2 => exact bi.out);rintro e w' ⟨rfl,⟨nd,rfl⟩⟩;refine ⟨_,rfl,?_⟩) | ((with_reducible refine gate_callee (f:=7) rfl ?_);refine goesA_ (some 19) rfl rfl Try.func7 (by kernel_rfl) rfl #[.slice A0 l0.length c0] rfl ?_;(with_reducible refine (spec_DrawMakeKeys.calls k _ _ l0 t350 t351 t352 t353 t354 t355 t356 _ ?side1 ?side2 A4.out).mono ?_);(case side1 => repeat (first | exact bh.out | (with_reducible refine Kd.C_alloc ?_ _) | (with_reducible refine Kd.C_drewN ?_ _) | (with_reducible refine Kd.C_drew ?_)));(case side2 => exact bi.out);rintro e w13 ⟨v357,rfl,ho0,hb⟩;refine ⟨_,rfl,?_⟩;have a3:=Z_ (Kd.R_lower ho0 (below_size Lb_));replace HB:=Z_ (lP_ Lb_ hb);(try clear hb);(try clear ho0);obtain ⟨bj,au,eo14⟩:=Kd.R_slice a3.out;subst eo14) | ((with_reducible refine gate_callee (f:=8) rfl ?_);refine goesA_ (some 34) rfl rfl Try.func8 (by kernel_rfl) rfl #[.slice bj t350.length au,.int .i64 t351,.int .i64 t352,.int .i64 t353,.int .i64 t354,.int .i64 t355,.int .i64 t356] rfl ?_;(with_reducible refine (impl_MakeKeys.calls k _ _ t350 t351 t352 t353 t354 t355 t356 t359 t360 t361 t362 t363 t364 _ ?side1 ?side2 A5.out).mono ?_);(case side1 => exact Rc_ a3);(case side2 => exact (Kd.R_reads' a3.out).2.1);rintro e w15 ⟨v365,rfl,ho0,hb⟩;refine ⟨_,rfl,?_⟩;have ab:=Z_ (Kd.R_lower (Kd.R_new' ho0 (Kd.R_lt a3.out)) (below_size HB.out));replace a3:=Z_ (Kd.R_elder' a3.out (Kd.R_base ho0) hb);replace HB:=Z_ (lP_ HB.out hb);(try clear hb);(try clear ho0)) | ((with_reducible refine gD_ 10 rfl ?_);(try (refine gate_guard (by rfl) ?_;dsimp only));refine box_event ?hg (N:=10) ?hd (cs:=zs5) (t:=30) ?hr ?_;(case hd => rfl);(case hg => rfl);(case hr => first | (go_simp;done) | (go_simp;rfl));intro a6 hg w16 hbox hb;replace a3:=Z_ (Kd.R_below a3.out hb);replace ab:=Z_ (Kd.R_below ab.out hb);have a1:=Z_ hbox;have af:=Z_ ((by rw [hg];exact (below_size HB.out) : w.heap.size ≤ a6));replace HB:=Z_ (lP_ HB.out hb);clear hb hbox hg;obtain ⟨_,_,_,_,_,_,_,_,_,_,_,_⟩:=bc6 a1.out;obtain ⟨ai,ah,eo18⟩:=Kd.R_slice ab.out;subst eo18) | ((with_reducible refine gate_callee (f:=10) rfl ?_);refine goesA_ (some 54) rfl rfl Try.func10 (by kernel_rfl) rfl #[.slice ai t364.length ah,.agg #[.int .i64 6,.int .i64 t353,.int .i64 0,.int .i64 0]] rfl ?_;(with_reducible refine (impl_PutTerm.calls k _ _ t364 6 t353 0 0 t376 t377 t378 _ ?side1 ?side2 A7.out).mono ?_);(case side1 => refine (Kd.R_reads' (e:=36) (base:=w.heap.size) (ok:=fun k_ => (True ∧ some k_ ≠ (.slice bj t350.length au : Value).ownBlock)) (n:=t364.length) (c:=ah) ?_).2.2;exact (Kd.R_mono (rfar6 (g:=a6) (Kd.R_types ab.out a1.out (by decide)) (fun _ hk => hk.2)) (fun _ h_ => h_.1)));(case side2 => exact (Kd.R_reads' ab.out).2.1);rintro e w19 ⟨v379,rfl,ho0,hb⟩;refine ⟨_,rfl,?_⟩;have ae:=Z_ (Kd.R_lower (Kd.R_new' (Kd.R_new' ho0 (Kd.R_lt (Kd.R_mono (rfar6 (g:=a6) (Kd.R_types a3.out a1.out (by decide)) (fun _ hk => hk.2)) (fun _ h_ => h_.1)))) (Kd.R_lt (Kd.R_mono (rfar6 (g:=a6) (Kd.R_types ab.out a1.out (by decide)) (fun _ hk => hk.2)) (fun _ h_ => h_.1)))) (below_size Lb_));replace a3:=Z_ (Kd.R_elder' (Kd.R_mono (rfar6 (g:=a6) (Kd.R_types a3.out a1.out (by decide)) (fun _ hk => hk.2)) (fun _ h_ => h_.1)) (Kd.R_base ho0) hb);replace ab:=Z_ (Kd.R_elder' (Kd.R_mono (rfar6 (g:=a6) (Kd.R_types ab.out a1.out (by decide)) (fun _ hk => hk.2)) (fun _ h_ => h_.1)) (Kd.R_base ho0) hb);replace a1:=Z_ (bB_ (g:=a6) (o:=.cells #[.int .i64 t359,.int .i64 t360,.int .i64 t361,.int .i64 t362,.int .i64 t363,.slice ai t364.length ah] 30 (0,0)) (by apply fill6;exact a1.out) hb);replace HB:=Z_ (lP_ Lb_ hb);(try clear hb);(try clear ho0)) | ((with_reducible refine gD_ 11 rfl ?_);(try (refine gate_guard (by rfl) ?_;dsimp only));refine box_event ?hg (N:=11) ?hd (cs:=#[.int .i64 0,.int .i64 0,.slice none 0 0]) (t:=33) ?hr ?_;(case hd => rfl);(case hg => rfl);(case hr => first | (go_simp;done) | (go_simp;rfl));intro a7 hg w20 hbox hb;replace a3:=Z_ (Kd.R_below a3.out hb);replace ab:=Z_ (Kd.R_below ab.out hb);replace ae:=Z_ (Kd.R_below ae.out hb);have a2:=Z_ hbox;have aj:=Z_ ((by rw [hg];exact (below_size HB.out) : w.heap.size ≤ a7));replace HB:=Z_ (lP_ HB.out hb);have ba:=Z_ ((by rw [hg];exact Nat.ne_of_lt (blk_lt a1.out) : a6 ≠ a7));replace a1:=Z_ (bB_ a1.out hb);have bd:=Z_ ba.out.symm;clear hb hbox hg;have d4:=bd.out;have d5:=ba.out;obtain ⟨_,_,_,_,_,_⟩:=bc3 a2.out;obtain ⟨ac,ad,eo23⟩:=Kd.R_slice ae.out;subst eo23))
 have n0_ : Aside0 (Kd.R k36 36 (((w20.setCell ⟨a7,0,none⟩ (.int .i64 t376)).setCell ⟨a7,1,none⟩ (.int .i64 t377)).setCell ⟨a7,2,none⟩ (.slice ac t378.length ad)) w.heap.size (fun k_ => some k_ ≠ (.slice ai t364.length ah : Value).ownBlock ∧ some k_ ≠ (.slice ac t378.length ad : Value).ownBlock) (.slice bj t350.length au) t350):=⟨by (with_reducible repeat first | apply rA_ | apply rN_ | apply rD_);exact Kd.R_mono (rfar3 (g:=a7) (Kd.R_types a3.out a2.out (by decide)) (fun _ hk => hk.2)) (fun _ hk => ⟨hk.1.1.2,hk.1.2⟩)⟩
 have n1_ : Aside0 (Kd.R k36 36 (((w20.setCell ⟨a7,0,none⟩ (.int .i64 t376)).setCell ⟨a7,1,none⟩ (.int .i64 t377)).setCell ⟨a7,2,none⟩ (.slice ac t378.length ad)) w.heap.size (fun k_ => some k_ ≠ (.slice bj t350.length au : Value).ownBlock ∧ some k_ ≠ (.slice ac t378.length ad : Value).ownBlock) (.slice ai t364.length ah) t364):=⟨by (with_reducible repeat first | apply rA_ | apply rN_ | apply rD_);exact Kd.R_mono (rfar3 (g:=a7) (Kd.R_types ab.out a2.out (by decide)) (fun _ hk => hk.2)) (fun _ hk => ⟨hk.1.1.2,hk.1.2⟩)⟩
 have n2_ : Aside0 (Kd.R k36 36 (((w20.setCell ⟨a7,0,none⟩ (.int .i64 t376)).setCell ⟨a7,1,none⟩ (.int .i64 t377)).setCell ⟨a7,2,none⟩ (.slice ac t378.length ad)) w.heap.size (fun k_ => some k_ ≠ (.slice bj t350.length au : Value).ownBlock ∧ some k_ ≠ (.slice ai t364.length ah : Value).ownBlock) (.slice ac t378.length ad) t378):=⟨by (with_reducible repeat first | apply rA_ | apply rN_ | apply rD_);exact Kd.R_mono (rfar3 (g:=a7) (Kd.R_types ae.out a2.out (by decide)) (fun _ hk => hk.2)) (fun _ hk => ⟨hk.1.1.2,hk.1.2⟩)⟩
 have n3_ : Aside0 ((((w20.setCell ⟨a7,0,none⟩ (.int .i64 t376)).setCell ⟨a7,1,none⟩ (.int .i64 t377)).setCell ⟨a7,2,none⟩ (.slice ac t378.length ad)).heap[a6]? = some (.cells #[.int .i64 t359,.int .i64 t360,.int .i64 t361,.int .i64 t362,.int .i64 t363,.slice ai t364.length ah] 30 (0,0))):=⟨by (iterate 3 ((with_reducible repeat first | apply bN_ | apply bD_ | apply bA_);refine bF_ ?_ ba.out _));(with_reducible repeat first | apply bN_ | apply bD_ | apply bA_);exact a1.out⟩
 have n4_ : Aside0 ((((w20.setCell ⟨a7,0,none⟩ (.int .i64 t376)).setCell ⟨a7,1,none⟩ (.int .i64 t377)).setCell ⟨a7,2,none⟩ (.slice ac t378.length ad)).heap[a7]? = some (.cells #[.int .i64 t376,.int .i64 t377,.slice ac t378.length ad] 33 (0,0))):=⟨by (with_reducible repeat first | apply bN_ | apply bD_ | apply bA_);apply fill3;(with_reducible repeat first | apply bN_ | apply bD_ | apply bA_);exact a2.out⟩
 have n5_ : Aside0 (Below w.heap.size w (((w20.setCell ⟨a7,0,none⟩ (.int .i64 t376)).setCell ⟨a7,1,none⟩ (.int .i64 t377)).setCell ⟨a7,2,none⟩ (.slice ac t378.length ad))):=⟨Lb_⟩
 (try clear a3)
 (try clear ab)
 (try clear ae)
 (try clear a1)
 (try clear a2)
 (try clear HB)
 generalize (((w20.setCell ⟨a7,0,none⟩ (.int .i64 t376)).setCell ⟨a7,1,none⟩ (.int .i64 t377)).setCell ⟨a7,2,none⟩ (.slice ac t378.length ad)) = w24 at n0_ n1_ n2_ n3_ n4_ n5_ ⊢
 have a3:=n0_
 have ab:=n1_
 have ae:=n2_
 have a1:=n3_
 have a2:=n4_
 have HB:=n5_
 clear n0_ n1_ n2_ n3_ n4_ n5_
 replace a3:=Z_ (rD_ a3.out)
 replace ab:=Z_ (rD_ ab.out)
 replace ae:=Z_ (rD_ ae.out)
 replace a1:=Z_ (bD_ a1.out)
 replace a2:=Z_ (bD_ a2.out)
 replace HB:=Z_ (lD_ HB.out)
 have p387 : 0 ≤ (t354 : Int):=dA_
 have q387 : t354 < (t350.length : Int):=dA_
 obtain ⟨ad387,e387,hx387_0,hx387_1,hx387_2,hx387_3⟩:=at_T36 (Kd.R_reads' a3.out).2.2 t354 p387 q387
 cases e387
 replace p387:=eq_true p387
 replace q387:=eq_true q387
 refine start_ (n:=16) (S:=fun w' => w'.cell? ⟨a7,0,none⟩ = some (.int .i64 t376) ∧ w'.cell? ⟨a7,1,none⟩ = some (.int .i64 t377) ∧ w'.cell? ⟨a7,2,none⟩ = some (.slice ac t378.length ad) ∧ w'.cell? (ad387.add ((t354).toNat * 4)) = some (.int .i64 ((rd_T36 t350 t354).f0)) ∧ w'.cell? ⟨(ad387.add ((t354).toNat * 4)).block,(ad387.add ((t354).toNat * 4)).off + 1,none⟩ = some (.int .i64 ((rd_T36 t350 t354).f1)) ∧ w'.cell? ⟨(ad387.add ((t354).toNat * 4)).block,(ad387.add ((t354).toNat * 4)).off + 2,none⟩ = some (.int .i64 ((rd_T36 t350 t354).f2)) ∧ w'.cell? ⟨(ad387.add ((t354).toNat * 4)).block,(ad387.add ((t354).toNat * 4)).off + 3,none⟩ = some (.int .i64 ((rd_T36 t350 t354).f3))) (ds:=[]) (Bt 16 0) (by kernel_rfl) rfl rfl ⟨(blk_cell a2.out 0).trans rfl,(blk_cell a2.out 1).trans rfl,(blk_cell a2.out 2).trans rfl,hx387_0,hx387_1,hx387_2,hx387_3⟩ (fun hHeld => ?_);refine with_tabW laws_FnKeys.tab10 laws_FnKeys.bits10 (fun HT_ HW_ => ?_)
 generalize w24.drew = w25 at a3 ab ae a1 a2 HB hx387_0 hx387_1 hx387_2 hx387_3 hHeld ⊢
 refine pu_ 0 (some 67) (Bt 16 1) (any_of HT_.out (by kernel_rfl)) ?_
 refine pu_ 2 (some 69) (Bt 16 5) (any_of HT_.out (by kernel_rfl)) ?_
 refine pu_ 3 (some 70) (Bt 16 13) (any_of HT_.out (by kernel_rfl)) ?_
 refine pu_ 4 (some 71) (Bt 16 29) (any_of HT_.out (by kernel_rfl)) ?_
 refine pu_ 5 (some 72) (Bt 16 61) (any_of HT_.out (by kernel_rfl)) ?_
 refine pu_ 6 (some 73) (Bt 16 125) (any_of HT_.out (by kernel_rfl)) ?_
 refine pu_ 7 (some 74) (Bt 16 253) (any_of HT_.out (by kernel_rfl)) ?_
 refine pu_ 9 (some 76) (Bt 16 765) (any_of HT_.out (by kernel_rfl)) ?_
 refine pu_ 11 (some 78) (Bt 16 2813) (any_of HT_.out (by kernel_rfl)) ?_
 refine pu_ 12 (some 79) (Bt 16 6909) (any_of HT_.out (by kernel_rfl)) ?_
 refine ta_ 1 (some 68) (Bt 16 6911) (take_ofW HT_.out HW_.out (by kernel_rfl)) hHeld ?_
 refine ta_ 8 (some 75) (Bt 16 7167) (take_ofW HT_.out HW_.out (by kernel_rfl)) hHeld ?_
 refine ta_ 10 (some 77) (Bt 16 8191) (take_ofW HT_.out HW_.out (by kernel_rfl)) hHeld ?_
 refine join_ (σ:=Value × Nat) 1 laws_FnKeys.calls.b27 (fun s_ => [(80,.agg #[.int .i64 t388,.int .i64 t389,.int .i64 t390,.int .i64 t391,.int .i64 t392,s_.1]),(12,.pointer (some ⟨s_.2,0,none⟩))]) (fun s_ w' => (w'.cell? ⟨a7,0,none⟩ = some (.int .i64 t376) ∧ w'.cell? ⟨a7,1,none⟩ = some (.int .i64 t377) ∧ w'.cell? ⟨a7,2,none⟩ = some (.slice ac t378.length ad) ∧ w'.cell? (ad387.add ((t354).toNat * 4)) = some (.int .i64 ((rd_T36 t350 t354).f0)) ∧ w'.cell? ⟨(ad387.add ((t354).toNat * 4)).block,(ad387.add ((t354).toNat * 4)).off + 1,none⟩ = some (.int .i64 ((rd_T36 t350 t354).f1)) ∧ w'.cell? ⟨(ad387.add ((t354).toNat * 4)).block,(ad387.add ((t354).toNat * 4)).off + 2,none⟩ = some (.int .i64 ((rd_T36 t350 t354).f2)) ∧ w'.cell? ⟨(ad387.add ((t354).toNat * 4)).block,(ad387.add ((t354).toNat * 4)).off + 3,none⟩ = some (.int .i64 ((rd_T36 t350 t354).f3))) ∧ (Kd.R k36 36 w' w.heap.size (fun k_ => some k_ ≠ (.slice ai t364.length ah : Value).ownBlock ∧ some k_ ≠ (.slice ac t378.length ad : Value).ownBlock ∧ some k_ ≠ (s_.1 : Value).ownBlock) (.slice (some ad387) t350.length au) t350) ∧ (Kd.R k36 36 w' w.heap.size (fun k_ => some k_ ≠ (.slice (some ad387) t350.length au : Value).ownBlock ∧ some k_ ≠ (.slice ac t378.length ad : Value).ownBlock ∧ some k_ ≠ (s_.1 : Value).ownBlock) (.slice ai t364.length ah) t364) ∧ (Kd.R k36 36 w' w.heap.size (fun k_ => some k_ ≠ (.slice (some ad387) t350.length au : Value).ownBlock ∧ some k_ ≠ (.slice ai t364.length ah : Value).ownBlock ∧ some k_ ≠ (s_.1 : Value).ownBlock) (.slice ac t378.length ad) t378) ∧ (Kd.R k36 36 w' w.heap.size (fun k_ => some k_ ≠ (.slice (some ad387) t350.length au : Value).ownBlock ∧ some k_ ≠ (.slice ai t364.length ah : Value).ownBlock ∧ some k_ ≠ (.slice ac t378.length ad : Value).ownBlock) s_.1 t393) ∧ (w'.heap[a6]? = some (.cells #[.int .i64 t359,.int .i64 t360,.int .i64 t361,.int .i64 t362,.int .i64 t363,.slice ai t364.length ah] 30 (0,0))) ∧ (w'.heap[a7]? = some (.cells #[.int .i64 t376,.int .i64 t377,.slice ac t378.length ad] 33 (0,0))) ∧ (w'.heap[s_.2]? = some (.cells #[.int .i64 0,.int .i64 0,.int .i64 0,.int .i64 0,.int .i64 0,.slice none 0 0] 30 (0,0))) ∧ (w.heap.size ≤ s_.2) ∧ (w.heap.size ≤ s_.2) ∧ (a6 ≠ s_.2) ∧ (s_.2 ≠ a6) ∧ (a7 ≠ s_.2) ∧ (s_.2 ≠ a7) ∧ (Below w.heap.size w w')) ?_ ?_
 rotate_left
 ·intro hCont
  refine two_ (i:=13) (j:=14) (Ni:=some 80) (Nj:=some 12) (Bt 16 16383) (Bt 16 24575) rfl rfl rfl rfl (two_of HT_.out (by kernel_rfl)) (by decide) (by decide) (fun K hK => ?_) (fun K hK => ?_)
  ·skip
   refine goes_ Try.func8 (by kernel_rfl) rfl #[.slice ac t378.length ad,.int .i64 t351,.int .i64 t352,.int .i64 ((rd_T36 t350 t354).f1),.int .i64 t377,.int .i64 t355,.int .i64 t356] (by rfl) rfl rfl (by (try simp only [List.map_toArray,List.map_cons,List.map_nil]);first | done | rfl | (simp only [List.length_drop,List.length_take];rfl)) ?_
   with_reducible refine (impl_MakeKeys.calls k _ _ t378 t351 t352 ((rd_T36 t350 t354).f1) t377 t355 t356 t388 t389 t390 t391 t392 t393 _ ?side1 ?side2 cp.out).mono ?_
   (case side1 => exact Rc_ ae)
   (case side2 => exact (Kd.R_reads' ae.out).2.1)
   rintro e w26 ⟨v394,rfl,ho0,hb⟩
   have HS3_:=(hb.cell (World.block_lt_of_cell? _ _ (hHeld.2.2.2.1))).trans (hHeld.2.2.2.1)
   have HS4_:=(hb.cell (World.block_lt_of_cell? _ _ (hHeld.2.2.2.2.1))).trans (hHeld.2.2.2.2.1)
   have HS5_:=(hb.cell (World.block_lt_of_cell? _ _ (hHeld.2.2.2.2.2.1))).trans (hHeld.2.2.2.2.2.1)
   have HS6_:=(hb.cell (World.block_lt_of_cell? _ _ (hHeld.2.2.2.2.2.2))).trans (hHeld.2.2.2.2.2.2)
   refine ⟨_,rfl,?_⟩
   have n0_:=Z_ (Kd.R_elder' (Rk_ a3) (Kd.R_base ho0) hb)
   have n1_:=Z_ (Kd.R_elder' (Rk_ ab) (Kd.R_base ho0) hb)
   have n2_:=Z_ (Kd.R_elder' (Rk_ ae) (Kd.R_base ho0) hb)
   have n3_:=Z_ (Kd.R_lower (Kd.R_new' (Kd.R_new' (Kd.R_new' ho0 (Kd.R_lt (Rk_ a3))) (Kd.R_lt (Rk_ ab))) (Kd.R_lt (Rk_ ae))) (below_size Lb_))
   have n4_:=Z_ (bB_ (g:=a6) (o:=.cells #[.int .i64 t359,.int .i64 t360,.int .i64 t361,.int .i64 t362,.int .i64 t363,.slice ai t364.length ah] 30 (0,0)) (Bk_ a1) hb)
   have n5_:=Z_ (bB_ (g:=a7) (o:=.cells #[.int .i64 t376,.int .i64 t377,.slice ac t378.length ad] 33 (0,0)) (Bk_ a2) hb)
   have n6_:=Z_ (lP_ Lb_ hb)
   clear a3
   clear ab
   clear ae
   clear a1
   clear a2
   clear HB
   have a3:=n0_
   have ab:=n1_
   have ae:=n2_
   have aq:=n3_
   have a1:=n4_
   have a2:=n5_
   have HB:=n6_
   clear n0_ n1_ n2_ n3_ n4_ n5_ n6_
   (try clear hb)
   (try clear hb2)
   (try clear hk)
   (try clear hi)
   (try clear ho0)
   refine hK.out _ _ ⟨(blk_cell a2.out 0).trans rfl,(blk_cell a2.out 1).trans rfl,(blk_cell a2.out 2).trans rfl,HS3_,HS4_,HS5_,HS6_⟩ (fun hHeld => ?_)
   clear hK K
   refine norm_ (a':=?_) ?_ ?_
   rotate_left
   ·show Act.put _ (some 80) _ = _
    simp only [Act.put,lA_,lZ_,lS_,i64_w,i32_w]
    rfl
   refine one_ (i:=14) (N:=some 12) laws_FnKeys.calls.b27 rfl rfl (one_of HT_.out (by kernel_rfl)) (by decide) (fun K hK => ?_)
   refine box_step ?hg (N:=12) ?hd (cs:=zs5) (t:=30) ?hr ?_;(case hd => rfl);(case hg => rfl);(case hr => first | (go_simp;done) | (go_simp;rfl))
   intro a9 hg w27 hbox hb
   have HS3_:=(hb.cell (World.block_lt_of_cell? _ _ (hHeld.2.2.2.1))).trans (hHeld.2.2.2.1)
   have HS4_:=(hb.cell (World.block_lt_of_cell? _ _ (hHeld.2.2.2.2.1))).trans (hHeld.2.2.2.2.1)
   have HS5_:=(hb.cell (World.block_lt_of_cell? _ _ (hHeld.2.2.2.2.2.1))).trans (hHeld.2.2.2.2.2.1)
   have HS6_:=(hb.cell (World.block_lt_of_cell? _ _ (hHeld.2.2.2.2.2.2))).trans (hHeld.2.2.2.2.2.2)
   have n0_:=Z_ (Kd.R_below (Rk_ a3) hb)
   have n1_:=Z_ (Kd.R_below (Rk_ ab) hb)
   have n2_:=Z_ (Kd.R_below (Rk_ ae) hb)
   have n3_:=Z_ (Kd.R_below (Rk_ aq) hb)
   have n4_:=Z_ (bB_ (g:=a6) (o:=.cells #[.int .i64 t359,.int .i64 t360,.int .i64 t361,.int .i64 t362,.int .i64 t363,.slice ai t364.length ah] 30 (0,0)) (Bk_ a1) hb)
   have n5_:=Z_ (bB_ (g:=a7) (o:=.cells #[.int .i64 t376,.int .i64 t377,.slice ac t378.length ad] 33 (0,0)) (Bk_ a2) hb)
   have n6_:=Z_ (lP_ Lb_ hb)
   have n7_:=Z_ hbox
   have n8_:=Z_ ((by rw [hg];exact (below_size Lb_) : w.heap.size ≤ a9))
   have n9_:=Z_ ((by rw [hg];exact (below_size Lb_) : w.heap.size ≤ a9))
   have n10_:=Z_ ((by rw [hg];exact Nat.ne_of_lt (blk_lt (g:=a6) (o:=.cells #[.int .i64 t359,.int .i64 t360,.int .i64 t361,.int .i64 t362,.int .i64 t363,.slice ai t364.length ah] 30 (0,0)) (Bk_ a1)) : a6 ≠ a9))
   have n11_:=Z_ ((by rw [hg];exact Nat.ne_of_gt (blk_lt (g:=a6) (o:=.cells #[.int .i64 t359,.int .i64 t360,.int .i64 t361,.int .i64 t362,.int .i64 t363,.slice ai t364.length ah] 30 (0,0)) (Bk_ a1)) : a9 ≠ a6))
   have n12_:=Z_ ((by rw [hg];exact Nat.ne_of_lt (blk_lt (g:=a7) (o:=.cells #[.int .i64 t376,.int .i64 t377,.slice ac t378.length ad] 33 (0,0)) (Bk_ a2)) : a7 ≠ a9))
   have n13_:=Z_ ((by rw [hg];exact Nat.ne_of_gt (blk_lt (g:=a7) (o:=.cells #[.int .i64 t376,.int .i64 t377,.slice ac t378.length ad] 33 (0,0)) (Bk_ a2)) : a9 ≠ a7))
   clear a3
   clear ab
   clear ae
   clear aq
   clear a1
   clear a2
   clear HB
   have a3:=n0_
   have ab:=n1_
   have ae:=n2_
   have aq:=n3_
   have a1:=n4_
   have a2:=n5_
   have HB:=n6_
   have a0:=n7_
   have be:=n8_
   have ak:=n9_
   have an:=n10_
   have ao:=n11_
   have ag:=n12_
   have ap:=n13_
   clear n0_ n1_ n2_ n3_ n4_ n5_ n6_ n7_ n8_ n9_ n10_ n11_ n12_ n13_
   clear hb hbox hg
   refine hK.out _ _ ⟨(blk_cell a2.out 0).trans rfl,(blk_cell a2.out 1).trans rfl,(blk_cell a2.out 2).trans rfl,HS3_,HS4_,HS5_,HS6_⟩ (fun hHeld => ?_)
   clear hK K
   refine norm_ (a':=?_) ?_ ?_
   rotate_left
   ·show Act.put _ (some 12) _ = _
    simp only [Act.put,lA_,lZ_,lS_,i64_w,i32_w]
    rfl
   exact norm_ (by simp only [putAll,Act.put,lA_,lZ_,lS_]) (hCont (v394,a9) _ ⟨hHeld,(by (with_reducible repeat first | apply rA_ | apply rN_ | apply rD_);exact Kd.R_mono a3.out (fun _ hk => ⟨hk.1.1,⟨hk.1.2,hk.2⟩⟩)),(by (with_reducible repeat first | apply rA_ | apply rN_ | apply rD_);exact Kd.R_mono ab.out (fun _ hk => ⟨hk.1.1,⟨hk.1.2,hk.2⟩⟩)),(by (with_reducible repeat first | apply rA_ | apply rN_ | apply rD_);exact Kd.R_mono ae.out (fun _ hk => ⟨hk.1.1,⟨hk.1.2,hk.2⟩⟩)),(by (with_reducible repeat first | apply rA_ | apply rN_ | apply rD_);exact Kd.R_mono aq.out (fun _ hk => ⟨hk.1.1.2,⟨hk.1.2,hk.2⟩⟩)),(Bk_ a1),(Bk_ a2),(Bk_ a0),be.out,ak.out,an.out,ao.out,ag.out,ap.out,Lb_⟩)
  ·skip
   refine box_step ?hg (N:=12) ?hd (cs:=zs5) (t:=30) ?hr ?_;(case hd => rfl);(case hg => rfl);(case hr => first | (go_simp;done) | (go_simp;rfl))
   intro a9 hg w26 hbox hb
   have HS3_:=(hb.cell (World.block_lt_of_cell? _ _ (hHeld.2.2.2.1))).trans (hHeld.2.2.2.1)
   have HS4_:=(hb.cell (World.block_lt_of_cell? _ _ (hHeld.2.2.2.2.1))).trans (hHeld.2.2.2.2.1)
   have HS5_:=(hb.cell (World.block_lt_of_cell? _ _ (hHeld.2.2.2.2.2.1))).trans (hHeld.2.2.2.2.2.1)
   have HS6_:=(hb.cell (World.block_lt_of_cell? _ _ (hHeld.2.2.2.2.2.2))).trans (hHeld.2.2.2.2.2.2)
   have n0_:=Z_ (Kd.R_below (Rk_ a3) hb)
   have n1_:=Z_ (Kd.R_below (Rk_ ab) hb)
   have n2_:=Z_ (Kd.R_below (Rk_ ae) hb)
   have n3_:=Z_ (bB_ (g:=a6) (o:=.cells #[.int .i64 t359,.int .i64 t360,.int .i64 t361,.int .i64 t362,.int .i64 t363,.slice ai t364.length ah] 30 (0,0)) (Bk_ a1) hb)
   have n4_:=Z_ (bB_ (g:=a7) (o:=.cells #[.int .i64 t376,.int .i64 t377,.slice ac t378.length ad] 33 (0,0)) (Bk_ a2) hb)
   have n5_:=Z_ (lP_ Lb_ hb)
   have n6_:=Z_ hbox
   have n7_:=Z_ ((by rw [hg];exact (below_size Lb_) : w.heap.size ≤ a9))
   have n8_:=Z_ ((by rw [hg];exact (below_size Lb_) : w.heap.size ≤ a9))
   have n9_:=Z_ ((by rw [hg];exact Nat.ne_of_lt (blk_lt (g:=a6) (o:=.cells #[.int .i64 t359,.int .i64 t360,.int .i64 t361,.int .i64 t362,.int .i64 t363,.slice ai t364.length ah] 30 (0,0)) (Bk_ a1)) : a6 ≠ a9))
   have n10_:=Z_ ((by rw [hg];exact Nat.ne_of_gt (blk_lt (g:=a6) (o:=.cells #[.int .i64 t359,.int .i64 t360,.int .i64 t361,.int .i64 t362,.int .i64 t363,.slice ai t364.length ah] 30 (0,0)) (Bk_ a1)) : a9 ≠ a6))
   have n11_:=Z_ ((by rw [hg];exact Nat.ne_of_lt (blk_lt (g:=a7) (o:=.cells #[.int .i64 t376,.int .i64 t377,.slice ac t378.length ad] 33 (0,0)) (Bk_ a2)) : a7 ≠ a9))
   have n12_:=Z_ ((by rw [hg];exact Nat.ne_of_gt (blk_lt (g:=a7) (o:=.cells #[.int .i64 t376,.int .i64 t377,.slice ac t378.length ad] 33 (0,0)) (Bk_ a2)) : a9 ≠ a7))
   clear a3
   clear ab
   clear ae
   clear a1
   clear a2
   clear HB
   have a3:=n0_
   have ab:=n1_
   have ae:=n2_
   have a1:=n3_
   have a2:=n4_
   have HB:=n5_
   have a0:=n6_
   have be:=n7_
   have ak:=n8_
   have an:=n9_
   have ao:=n10_
   have ag:=n11_
   have ap:=n12_
   clear n0_ n1_ n2_ n3_ n4_ n5_ n6_ n7_ n8_ n9_ n10_ n11_ n12_
   clear hb hbox hg
   refine hK.out _ _ ⟨(blk_cell a2.out 0).trans rfl,(blk_cell a2.out 1).trans rfl,(blk_cell a2.out 2).trans rfl,HS3_,HS4_,HS5_,HS6_⟩ (fun hHeld => ?_)
   clear hK K
   refine norm_ (a':=?_) ?_ ?_
   rotate_left
   ·show Act.put _ (some 12) _ = _
    simp only [Act.put,lA_,lZ_,lS_,i64_w,i32_w]
    rfl
   refine one_ (i:=13) (N:=some 80) laws_FnKeys.calls.b27 rfl rfl (one_of HT_.out (by kernel_rfl)) (by decide) (fun K hK => ?_)
   refine goes_ Try.func8 (by kernel_rfl) rfl #[.slice ac t378.length ad,.int .i64 t351,.int .i64 t352,.int .i64 ((rd_T36 t350 t354).f1),.int .i64 t377,.int .i64 t355,.int .i64 t356] (by rfl) rfl rfl (by (try simp only [List.map_toArray,List.map_cons,List.map_nil]);first | done | rfl | (simp only [List.length_drop,List.length_take];rfl)) ?_
   with_reducible refine (impl_MakeKeys.calls k _ _ t378 t351 t352 ((rd_T36 t350 t354).f1) t377 t355 t356 t388 t389 t390 t391 t392 t393 _ ?side1 ?side2 cp.out).mono ?_
   (case side1 => exact Rc_ ae)
   (case side2 => exact (Kd.R_reads' ae.out).2.1)
   rintro e w27 ⟨v394,rfl,ho0,hb⟩
   have HS3_:=(hb.cell (World.block_lt_of_cell? _ _ (hHeld.2.2.2.1))).trans (hHeld.2.2.2.1)
   have HS4_:=(hb.cell (World.block_lt_of_cell? _ _ (hHeld.2.2.2.2.1))).trans (hHeld.2.2.2.2.1)
   have HS5_:=(hb.cell (World.block_lt_of_cell? _ _ (hHeld.2.2.2.2.2.1))).trans (hHeld.2.2.2.2.2.1)
   have HS6_:=(hb.cell (World.block_lt_of_cell? _ _ (hHeld.2.2.2.2.2.2))).trans (hHeld.2.2.2.2.2.2)
   refine ⟨_,rfl,?_⟩
   have n0_:=Z_ (Kd.R_elder' (Rk_ a3) (Kd.R_base ho0) hb)
   have n1_:=Z_ (Kd.R_elder' (Rk_ ab) (Kd.R_base ho0) hb)
   have n2_:=Z_ (Kd.R_elder' (Rk_ ae) (Kd.R_base ho0) hb)
   have n3_:=Z_ (Kd.R_lower (Kd.R_new' (Kd.R_new' (Kd.R_new' ho0 (Kd.R_lt (Rk_ a3))) (Kd.R_lt (Rk_ ab))) (Kd.R_lt (Rk_ ae))) (below_size Lb_))
   have n4_:=Z_ (bB_ (g:=a6) (o:=.cells #[.int .i64 t359,.int .i64 t360,.int .i64 t361,.int .i64 t362,.int .i64 t363,.slice ai t364.length ah] 30 (0,0)) (Bk_ a1) hb)
   have n5_:=Z_ (bB_ (g:=a7) (o:=.cells #[.int .i64 t376,.int .i64 t377,.slice ac t378.length ad] 33 (0,0)) (Bk_ a2) hb)
   have n6_:=Z_ (bB_ (g:=a9) (o:=.cells zs5 30 (0,0)) (Bk_ a0) hb)
   have n7_:=Z_ (lP_ Lb_ hb)
   clear a3
   clear ab
   clear ae
   clear a1
   clear a2
   clear a0
   clear HB
   have a3:=n0_
   have ab:=n1_
   have ae:=n2_
   have aq:=n3_
   have a1:=n4_
   have a2:=n5_
   have a0:=n6_
   have HB:=n7_
   clear n0_ n1_ n2_ n3_ n4_ n5_ n6_ n7_
   (try clear hb)
   (try clear hb2)
   (try clear hk)
   (try clear hi)
   (try clear ho0)
   refine hK.out _ _ ⟨(blk_cell a2.out 0).trans rfl,(blk_cell a2.out 1).trans rfl,(blk_cell a2.out 2).trans rfl,HS3_,HS4_,HS5_,HS6_⟩ (fun hHeld => ?_)
   clear hK K
   refine norm_ (a':=?_) ?_ ?_
   rotate_left
   ·show Act.put _ (some 80) _ = _
    simp only [Act.put,lA_,lZ_,lS_,i64_w,i32_w]
    rfl
   exact norm_ (by simp only [putAll,Act.put,lA_,lZ_,lS_]) (hCont (v394,a9) _ ⟨hHeld,(by (with_reducible repeat first | apply rA_ | apply rN_ | apply rD_);exact Kd.R_mono a3.out (fun _ hk => ⟨hk.1.1,⟨hk.1.2,hk.2⟩⟩)),(by (with_reducible repeat first | apply rA_ | apply rN_ | apply rD_);exact Kd.R_mono ab.out (fun _ hk => ⟨hk.1.1,⟨hk.1.2,hk.2⟩⟩)),(by (with_reducible repeat first | apply rA_ | apply rN_ | apply rD_);exact Kd.R_mono ae.out (fun _ hk => ⟨hk.1.1,⟨hk.1.2,hk.2⟩⟩)),(by (with_reducible repeat first | apply rA_ | apply rN_ | apply rD_);exact Kd.R_mono aq.out (fun _ hk => ⟨hk.1.1.2,⟨hk.1.2,hk.2⟩⟩)),(Bk_ a1),(Bk_ a2),(Bk_ a0),be.out,ak.out,an.out,ao.out,ag.out,ap.out,Lb_⟩)
 rintro ⟨v394,a9⟩ w28 ⟨hS_,h0_,h1_,h2_,h3_,h4_,h5_,h6_,h7_,h8_,h9_,h10_,h11_,h12_,h13_⟩
 have n0_ : Aside0 (Kd.R k36 36 w28 w.heap.size (fun k_ => some k_ ≠ (.slice ai t364.length ah : Value).ownBlock ∧ some k_ ≠ (.slice ac t378.length ad : Value).ownBlock ∧ some k_ ≠ (v394 : Value).ownBlock) (.slice (some ad387) t350.length au) t350):=⟨h0_⟩
 have n1_ : Aside0 (Kd.R k36 36 w28 w.heap.size (fun k_ => some k_ ≠ (.slice (some ad387) t350.length au : Value).ownBlock ∧ some k_ ≠ (.slice ac t378.length ad : Value).ownBlock ∧ some k_ ≠ (v394 : Value).ownBlock) (.slice ai t364.length ah) t364):=⟨h1_⟩
 have n2_ : Aside0 (Kd.R k36 36 w28 w.heap.size (fun k_ => some k_ ≠ (.slice (some ad387) t350.length au : Value).ownBlock ∧ some k_ ≠ (.slice ai t364.length ah : Value).ownBlock ∧ some k_ ≠ (v394 : Value).ownBlock) (.slice ac t378.length ad) t378):=⟨h2_⟩
 have n3_ : Aside0 (Kd.R k36 36 w28 w.heap.size (fun k_ => some k_ ≠ (.slice (some ad387) t350.length au : Value).ownBlock ∧ some k_ ≠ (.slice ai t364.length ah : Value).ownBlock ∧ some k_ ≠ (.slice ac t378.length ad : Value).ownBlock) v394 t393):=⟨h3_⟩
 have n4_ : Aside0 (w28.heap[a6]? = some (.cells #[.int .i64 t359,.int .i64 t360,.int .i64 t361,.int .i64 t362,.int .i64 t363,.slice ai t364.length ah] 30 (0,0))):=⟨h4_⟩
 have n5_ : Aside0 (w28.heap[a7]? = some (.cells #[.int .i64 t376,.int .i64 t377,.slice ac t378.length ad] 33 (0,0))):=⟨h5_⟩
 have n6_ : Aside0 (w28.heap[a9]? = some (.cells #[.int .i64 0,.int .i64 0,.int .i64 0,.int .i64 0,.int .i64 0,.slice none 0 0] 30 (0,0))):=⟨h6_⟩
 have n7_ : Aside0 (w.heap.size ≤ a9):=⟨h7_⟩
 have n8_ : Aside0 (w.heap.size ≤ a9):=⟨h8_⟩
 have n9_ : Aside0 (a6 ≠ a9):=⟨h9_⟩
 have n10_ : Aside0 (a9 ≠ a6):=⟨h10_⟩
 have n11_ : Aside0 (a7 ≠ a9):=⟨h11_⟩
 have n12_ : Aside0 (a9 ≠ a7):=⟨h12_⟩
 have n13_ : Aside0 (Below w.heap.size w w28):=⟨h13_⟩
 clear a3
 clear ab
 clear ae
 clear a1
 clear a2
 clear HB
 clear h0_ h1_ h2_ h3_ h4_ h5_ h6_ h7_ h8_ h9_ h10_ h11_ h12_ h13_
 have a3:=n0_
 have ab:=n1_
 have ae:=n2_
 have aq:=n3_
 have a1:=n4_
 have a2:=n5_
 have a0:=n6_
 have be:=n7_
 have ak:=n8_
 have an:=n9_
 have ao:=n10_
 have ag:=n11_
 have ap:=n12_
 have HB:=n13_
 clear n0_ n1_ n2_ n3_ n4_ n5_ n6_ n7_ n8_ n9_ n10_ n11_ n12_ n13_
 have hHeld : w28.cell? ⟨a7,0,none⟩ = some (.int .i64 t376) ∧ w28.cell? ⟨a7,1,none⟩ = some (.int .i64 t377) ∧ w28.cell? ⟨a7,2,none⟩ = some (.slice ac t378.length ad) ∧ w28.cell? (ad387.add ((t354).toNat * 4)) = some (.int .i64 ((rd_T36 t350 t354).f0)) ∧ w28.cell? ⟨(ad387.add ((t354).toNat * 4)).block,(ad387.add ((t354).toNat * 4)).off + 1,none⟩ = some (.int .i64 ((rd_T36 t350 t354).f1)) ∧ w28.cell? ⟨(ad387.add ((t354).toNat * 4)).block,(ad387.add ((t354).toNat * 4)).off + 2,none⟩ = some (.int .i64 ((rd_T36 t350 t354).f2)) ∧ w28.cell? ⟨(ad387.add ((t354).toNat * 4)).block,(ad387.add ((t354).toNat * 4)).off + 3,none⟩ = some (.int .i64 ((rd_T36 t350 t354).f3)):=hS_
 obtain ⟨al,am,eo34⟩:=Kd.R_slice aq.out
 (first | subst eo34 | (injection eo34 with f1_ f2_ f3_;have f4_:=f1_.symm;have f5_:=f3_.symm;clear f1_ f2_ f3_;subst f4_;subst f5_))
 refine norm_ (a':=?_) ?_ ?_
 rotate_left
 ·simp only [putAll,Act.put,lA_,lZ_,lS_]
  rfl
 refine one_ (i:=15) (N:=none) (Bt 16 65535) rfl rfl (one_of HT_.out (by kernel_rfl)) (by decide) (fun K hK => ?_)
 have hs29 : w28.cell? ⟨a9,0,none⟩ = some (.int .i64 0):=(blk_cell a0.out 0).trans rfl
 have hfs29:=blk_frozen a0.out 0
 have hns29_0:=an.out
 have hns29_1:=ag.out
 have hms29_0:=ao.out
 have hms29_1:=ap.out
 have hs30 : w28.cell? ⟨a9,1,none⟩ = some (.int .i64 0):=(blk_cell a0.out 1).trans rfl
 have hfs30:=blk_frozen a0.out 1
 have hns30_0:=an.out
 have hns30_1:=ag.out
 have hms30_0:=ao.out
 have hms30_1:=ap.out
 have hs31 : w28.cell? ⟨a9,2,none⟩ = some (.int .i64 0):=(blk_cell a0.out 2).trans rfl
 have hfs31:=blk_frozen a0.out 2
 have hns31_0:=an.out
 have hns31_1:=ag.out
 have hms31_0:=ao.out
 have hms31_1:=ap.out
 have hs32 : w28.cell? ⟨a9,3,none⟩ = some (.int .i64 0):=(blk_cell a0.out 3).trans rfl
 have hfs32:=blk_frozen a0.out 3
 have hns32_0:=an.out
 have hns32_1:=ag.out
 have hms32_0:=ao.out
 have hms32_1:=ap.out
 have hs33 : w28.cell? ⟨a9,4,none⟩ = some (.int .i64 0):=(blk_cell a0.out 4).trans rfl
 have hfs33:=blk_frozen a0.out 4
 have hns33_0:=an.out
 have hns33_1:=ag.out
 have hms33_0:=ao.out
 have hms33_1:=ap.out
 have hs35 : w28.cell? ⟨a9,5,none⟩ = some (.slice none 0 0):=(blk_cell a0.out 5).trans rfl
 have hfs35:=blk_frozen a0.out 5
 have hns35_0:=an.out
 have hns35_1:=ag.out
 have hms35_0:=ao.out
 have hms35_1:=ap.out
 refine skip_ (w1:=?_) (by rfl) rfl ?_ ?_
 rotate_left
 ·go_simp
  rfl
 refine hK.out _ _ ⟨((cell_far (p:=⟨a9,_,none⟩) ag.out _).trans (((cell_far (p:=⟨a9,_,none⟩) ag.out _).trans (((cell_far (p:=⟨a9,_,none⟩) ag.out _).trans (((cell_far (p:=⟨a9,_,none⟩) ag.out _).trans (((cell_far (p:=⟨a9,_,none⟩) ag.out _).trans (((cell_far (p:=⟨a9,_,none⟩) ag.out _).trans (hHeld.1)))))))))))),((cell_far (p:=⟨a9,_,none⟩) ag.out _).trans (((cell_far (p:=⟨a9,_,none⟩) ag.out _).trans (((cell_far (p:=⟨a9,_,none⟩) ag.out _).trans (((cell_far (p:=⟨a9,_,none⟩) ag.out _).trans (((cell_far (p:=⟨a9,_,none⟩) ag.out _).trans (((cell_far (p:=⟨a9,_,none⟩) ag.out _).trans (hHeld.2.1)))))))))))),((cell_far (p:=⟨a9,_,none⟩) ag.out _).trans (((cell_far (p:=⟨a9,_,none⟩) ag.out _).trans (((cell_far (p:=⟨a9,_,none⟩) ag.out _).trans (((cell_far (p:=⟨a9,_,none⟩) ag.out _).trans (((cell_far (p:=⟨a9,_,none⟩) ag.out _).trans (((cell_far (p:=⟨a9,_,none⟩) ag.out _).trans (hHeld.2.2.1)))))))))))),((cell_far (p:=⟨a9,_,none⟩) (by first | exact Kd.own_blk (Kd.R_ne a3.out a0.out (by decide)) | (rw [add_block];exact Kd.own_blk (Kd.R_ne a3.out a0.out (by decide))) | (show (Addr.add _ _).block ≠ _;rw [add_block];exact Kd.own_blk (Kd.R_ne a3.out a0.out (by decide))) | (dsimp only;exact Kd.own_blk (Kd.R_ne a3.out a0.out (by decide)))) _).trans (((cell_far (p:=⟨a9,_,none⟩) (by first | exact Kd.own_blk (Kd.R_ne a3.out a0.out (by decide)) | (rw [add_block];exact Kd.own_blk (Kd.R_ne a3.out a0.out (by decide))) | (show (Addr.add _ _).block ≠ _;rw [add_block];exact Kd.own_blk (Kd.R_ne a3.out a0.out (by decide))) | (dsimp only;exact Kd.own_blk (Kd.R_ne a3.out a0.out (by decide)))) _).trans (((cell_far (p:=⟨a9,_,none⟩) (by first | exact Kd.own_blk (Kd.R_ne a3.out a0.out (by decide)) | (rw [add_block];exact Kd.own_blk (Kd.R_ne a3.out a0.out (by decide))) | (show (Addr.add _ _).block ≠ _;rw [add_block];exact Kd.own_blk (Kd.R_ne a3.out a0.out (by decide))) | (dsimp only;exact Kd.own_blk (Kd.R_ne a3.out a0.out (by decide)))) _).trans (((cell_far (p:=⟨a9,_,none⟩) (by first | exact Kd.own_blk (Kd.R_ne a3.out a0.out (by decide)) | (rw [add_block];exact Kd.own_blk (Kd.R_ne a3.out a0.out (by decide))) | (show (Addr.add _ _).block ≠ _;rw [add_block];exact Kd.own_blk (Kd.R_ne a3.out a0.out (by decide))) | (dsimp only;exact Kd.own_blk (Kd.R_ne a3.out a0.out (by decide)))) _).trans (((cell_far (p:=⟨a9,_,none⟩) (by first | exact Kd.own_blk (Kd.R_ne a3.out a0.out (by decide)) | (rw [add_block];exact Kd.own_blk (Kd.R_ne a3.out a0.out (by decide))) | (show (Addr.add _ _).block ≠ _;rw [add_block];exact Kd.own_blk (Kd.R_ne a3.out a0.out (by decide))) | (dsimp only;exact Kd.own_blk (Kd.R_ne a3.out a0.out (by decide)))) _).trans (((cell_far (p:=⟨a9,_,none⟩) (by first | exact Kd.own_blk (Kd.R_ne a3.out a0.out (by decide)) | (rw [add_block];exact Kd.own_blk (Kd.R_ne a3.out a0.out (by decide))) | (show (Addr.add _ _).block ≠ _;rw [add_block];exact Kd.own_blk (Kd.R_ne a3.out a0.out (by decide))) | (dsimp only;exact Kd.own_blk (Kd.R_ne a3.out a0.out (by decide)))) _).trans (hHeld.2.2.2.1)))))))))))),((cell_far (p:=⟨a9,_,none⟩) (by first | exact Kd.own_blk (Kd.R_ne a3.out a0.out (by decide)) | (rw [add_block];exact Kd.own_blk (Kd.R_ne a3.out a0.out (by decide))) | (show (Addr.add _ _).block ≠ _;rw [add_block];exact Kd.own_blk (Kd.R_ne a3.out a0.out (by decide))) | (dsimp only;exact Kd.own_blk (Kd.R_ne a3.out a0.out (by decide)))) _).trans (((cell_far (p:=⟨a9,_,none⟩) (by first | exact Kd.own_blk (Kd.R_ne a3.out a0.out (by decide)) | (rw [add_block];exact Kd.own_blk (Kd.R_ne a3.out a0.out (by decide))) | (show (Addr.add _ _).block ≠ _;rw [add_block];exact Kd.own_blk (Kd.R_ne a3.out a0.out (by decide))) | (dsimp only;exact Kd.own_blk (Kd.R_ne a3.out a0.out (by decide)))) _).trans (((cell_far (p:=⟨a9,_,none⟩) (by first | exact Kd.own_blk (Kd.R_ne a3.out a0.out (by decide)) | (rw [add_block];exact Kd.own_blk (Kd.R_ne a3.out a0.out (by decide))) | (show (Addr.add _ _).block ≠ _;rw [add_block];exact Kd.own_blk (Kd.R_ne a3.out a0.out (by decide))) | (dsimp only;exact Kd.own_blk (Kd.R_ne a3.out a0.out (by decide)))) _).trans (((cell_far (p:=⟨a9,_,none⟩) (by first | exact Kd.own_blk (Kd.R_ne a3.out a0.out (by decide)) | (rw [add_block];exact Kd.own_blk (Kd.R_ne a3.out a0.out (by decide))) | (show (Addr.add _ _).block ≠ _;rw [add_block];exact Kd.own_blk (Kd.R_ne a3.out a0.out (by decide))) | (dsimp only;exact Kd.own_blk (Kd.R_ne a3.out a0.out (by decide)))) _).trans (((cell_far (p:=⟨a9,_,none⟩) (by first | exact Kd.own_blk (Kd.R_ne a3.out a0.out (by decide)) | (rw [add_block];exact Kd.own_blk (Kd.R_ne a3.out a0.out (by decide))) | (show (Addr.add _ _).block ≠ _;rw [add_block];exact Kd.own_blk (Kd.R_ne a3.out a0.out (by decide))) | (dsimp only;exact Kd.own_blk (Kd.R_ne a3.out a0.out (by decide)))) _).trans (((cell_far (p:=⟨a9,_,none⟩) (by first | exact Kd.own_blk (Kd.R_ne a3.out a0.out (by decide)) | (rw [add_block];exact Kd.own_blk (Kd.R_ne a3.out a0.out (by decide))) | (show (Addr.add _ _).block ≠ _;rw [add_block];exact Kd.own_blk (Kd.R_ne a3.out a0.out (by decide))) | (dsimp only;exact Kd.own_blk (Kd.R_ne a3.out a0.out (by decide)))) _).trans (hHeld.2.2.2.2.1)))))))))))),((cell_far (p:=⟨a9,_,none⟩) (by first | exact Kd.own_blk (Kd.R_ne a3.out a0.out (by decide)) | (rw [add_block];exact Kd.own_blk (Kd.R_ne a3.out a0.out (by decide))) | (show (Addr.add _ _).block ≠ _;rw [add_block];exact Kd.own_blk (Kd.R_ne a3.out a0.out (by decide))) | (dsimp only;exact Kd.own_blk (Kd.R_ne a3.out a0.out (by decide)))) _).trans (((cell_far (p:=⟨a9,_,none⟩) (by first | exact Kd.own_blk (Kd.R_ne a3.out a0.out (by decide)) | (rw [add_block];exact Kd.own_blk (Kd.R_ne a3.out a0.out (by decide))) | (show (Addr.add _ _).block ≠ _;rw [add_block];exact Kd.own_blk (Kd.R_ne a3.out a0.out (by decide))) | (dsimp only;exact Kd.own_blk (Kd.R_ne a3.out a0.out (by decide)))) _).trans (((cell_far (p:=⟨a9,_,none⟩) (by first | exact Kd.own_blk (Kd.R_ne a3.out a0.out (by decide)) | (rw [add_block];exact Kd.own_blk (Kd.R_ne a3.out a0.out (by decide))) | (show (Addr.add _ _).block ≠ _;rw [add_block];exact Kd.own_blk (Kd.R_ne a3.out a0.out (by decide))) | (dsimp only;exact Kd.own_blk (Kd.R_ne a3.out a0.out (by decide)))) _).trans (((cell_far (p:=⟨a9,_,none⟩) (by first | exact Kd.own_blk (Kd.R_ne a3.out a0.out (by decide)) | (rw [add_block];exact Kd.own_blk (Kd.R_ne a3.out a0.out (by decide))) | (show (Addr.add _ _).block ≠ _;rw [add_block];exact Kd.own_blk (Kd.R_ne a3.out a0.out (by decide))) | (dsimp only;exact Kd.own_blk (Kd.R_ne a3.out a0.out (by decide)))) _).trans (((cell_far (p:=⟨a9,_,none⟩) (by first | exact Kd.own_blk (Kd.R_ne a3.out a0.out (by decide)) | (rw [add_block];exact Kd.own_blk (Kd.R_ne a3.out a0.out (by decide))) | (show (Addr.add _ _).block ≠ _;rw [add_block];exact Kd.own_blk (Kd.R_ne a3.out a0.out (by decide))) | (dsimp only;exact Kd.own_blk (Kd.R_ne a3.out a0.out (by decide)))) _).trans (((cell_far (p:=⟨a9,_,none⟩) (by first | exact Kd.own_blk (Kd.R_ne a3.out a0.out (by decide)) | (rw [add_block];exact Kd.own_blk (Kd.R_ne a3.out a0.out (by decide))) | (show (Addr.add _ _).block ≠ _;rw [add_block];exact Kd.own_blk (Kd.R_ne a3.out a0.out (by decide))) | (dsimp only;exact Kd.own_blk (Kd.R_ne a3.out a0.out (by decide)))) _).trans (hHeld.2.2.2.2.2.1)))))))))))),((cell_far (p:=⟨a9,_,none⟩) (by first | exact Kd.own_blk (Kd.R_ne a3.out a0.out (by decide)) | (rw [add_block];exact Kd.own_blk (Kd.R_ne a3.out a0.out (by decide))) | (show (Addr.add _ _).block ≠ _;rw [add_block];exact Kd.own_blk (Kd.R_ne a3.out a0.out (by decide))) | (dsimp only;exact Kd.own_blk (Kd.R_ne a3.out a0.out (by decide)))) _).trans (((cell_far (p:=⟨a9,_,none⟩) (by first | exact Kd.own_blk (Kd.R_ne a3.out a0.out (by decide)) | (rw [add_block];exact Kd.own_blk (Kd.R_ne a3.out a0.out (by decide))) | (show (Addr.add _ _).block ≠ _;rw [add_block];exact Kd.own_blk (Kd.R_ne a3.out a0.out (by decide))) | (dsimp only;exact Kd.own_blk (Kd.R_ne a3.out a0.out (by decide)))) _).trans (((cell_far (p:=⟨a9,_,none⟩) (by first | exact Kd.own_blk (Kd.R_ne a3.out a0.out (by decide)) | (rw [add_block];exact Kd.own_blk (Kd.R_ne a3.out a0.out (by decide))) | (show (Addr.add _ _).block ≠ _;rw [add_block];exact Kd.own_blk (Kd.R_ne a3.out a0.out (by decide))) | (dsimp only;exact Kd.own_blk (Kd.R_ne a3.out a0.out (by decide)))) _).trans (((cell_far (p:=⟨a9,_,none⟩) (by first | exact Kd.own_blk (Kd.R_ne a3.out a0.out (by decide)) | (rw [add_block];exact Kd.own_blk (Kd.R_ne a3.out a0.out (by decide))) | (show (Addr.add _ _).block ≠ _;rw [add_block];exact Kd.own_blk (Kd.R_ne a3.out a0.out (by decide))) | (dsimp only;exact Kd.own_blk (Kd.R_ne a3.out a0.out (by decide)))) _).trans (((cell_far (p:=⟨a9,_,none⟩) (by first | exact Kd.own_blk (Kd.R_ne a3.out a0.out (by decide)) | (rw [add_block];exact Kd.own_blk (Kd.R_ne a3.out a0.out (by decide))) | (show (Addr.add _ _).block ≠ _;rw [add_block];exact Kd.own_blk (Kd.R_ne a3.out a0.out (by decide))) | (dsimp only;exact Kd.own_blk (Kd.R_ne a3.out a0.out (by decide)))) _).trans (((cell_far (p:=⟨a9,_,none⟩) (by first | exact Kd.own_blk (Kd.R_ne a3.out a0.out (by decide)) | (rw [add_block];exact Kd.own_blk (Kd.R_ne a3.out a0.out (by decide))) | (show (Addr.add _ _).block ≠ _;rw [add_block];exact Kd.own_blk (Kd.R_ne a3.out a0.out (by decide))) | (dsimp only;exact Kd.own_blk (Kd.R_ne a3.out a0.out (by decide)))) _).trans (hHeld.2.2.2.2.2.2))))))))))))⟩ (fun hHeld => ?_)
 clear hK K
 refine done_ (done_of HT_.out (by kernel_rfl)) ?_
 go_upto_if 85 with (first | ((with_reducible refine gate_dst (N:=82) rfl ?_);(try (refine gate_guard (by rfl) ?_;dsimp only));refine Kd.R_lit (Kd.int .i64) _ 2 ?hg (N:=82) ?hd (xs:=([t351] : List Int)) (inner:=[.int .i64 t351]) (ok:=fun _ => True) (okp:=fun _ => True) ?hr ?hp (fun _ hk => hk) trivial (Below.refl _ _) (Nat.le_refl _) (by simp) ?_;(case hd => rfl);(case hg => rfl);(case hr => first | (go_simp;done) | (go_simp;rfl));(case hp => exact (Reps.one (show Kd.M (Kd.int .i64) _ _ _ t351 [.int .i64 t351] from rfl) (Reps.none _ _)));intro v398 w36 ho37 hb hg_ hnew_;clear hg_ hnew_;(first | rw [← br.out] at ho37 | (simp only [Int.reduceToNat] at ho37;rw [← br.out] at ho37));have n0_:=Z_ (Kd.R_below (by (with_reducible repeat first | apply rA_ | apply rN_ | apply rD_);exact (Kd.R_mono (rfar6 (g:=a9) (Kd.R_types a3.out a0.out (by decide)) (fun _ hk => hk.2)) (fun _ h_ => h_.1))) hb);have n1_:=Z_ (Kd.R_below (by (with_reducible repeat first | apply rA_ | apply rN_ | apply rD_);exact (Kd.R_mono (rfar6 (g:=a9) (Kd.R_types ab.out a0.out (by decide)) (fun _ hk => hk.2)) (fun _ h_ => h_.1))) hb);have n2_:=Z_ (Kd.R_below (by (with_reducible repeat first | apply rA_ | apply rN_ | apply rD_);exact (Kd.R_mono (rfar6 (g:=a9) (Kd.R_types ae.out a0.out (by decide)) (fun _ hk => hk.2)) (fun _ h_ => h_.1))) hb);have n3_:=Z_ (Kd.R_below (by (with_reducible repeat first | apply rA_ | apply rN_ | apply rD_);exact (Kd.R_mono (rfar6 (g:=a9) (Kd.R_types aq.out a0.out (by decide)) (fun _ hk => hk.2)) (fun _ h_ => h_.1))) hb);have n4_:=Z_ (Kd.R_lower ho37 (below_size Lb_));have n5_:=Z_ (bB_ (g:=a6) (o:=.cells #[.int .i64 t359,.int .i64 t360,.int .i64 t361,.int .i64 t362,.int .i64 t363,.slice ai t364.length ah] 30 (0,0)) (by (iterate 6 ((with_reducible repeat first | apply bN_ | apply bD_ | apply bA_);refine bF_ ?_ an.out _));(with_reducible repeat first | apply bN_ | apply bD_ | apply bA_);exact a1.out) hb);have n6_:=Z_ (bB_ (g:=a7) (o:=.cells #[.int .i64 t376,.int .i64 t377,.slice ac t378.length ad] 33 (0,0)) (by (iterate 6 ((with_reducible repeat first | apply bN_ | apply bD_ | apply bA_);refine bF_ ?_ ag.out _));(with_reducible repeat first | apply bN_ | apply bD_ | apply bA_);exact a2.out) hb);have n7_:=Z_ (bB_ (g:=a9) (o:=.cells #[.int .i64 t388,.int .i64 t389,.int .i64 t390,.int .i64 t391,.int .i64 t392,.slice al t393.length am] 30 (0,0)) (by (with_reducible repeat first | apply bN_ | apply bD_ | apply bA_);apply fill6;(with_reducible repeat first | apply bN_ | apply bD_ | apply bA_);exact a0.out) hb);have n8_:=Z_ (lP_ Lb_ hb);clear a3 ab ae aq a1 a2 a0 HB;have a3:=n0_;have ab:=n1_;have ae:=n2_;have aq:=n3_;have ax:=n4_;have a1:=n5_;have a2:=n6_;have a0:=n7_;have HB:=n8_;clear n0_ n1_ n2_ n3_ n4_ n5_ n6_ n7_ n8_ hb ho37))
 (try simp only [Act.put,lA_,lZ_,lS_])
 go_cut [13] (fun v13 wc => ∃ (kq : Nat) (x13_11 : List Int),Aside0 (laws_FnKeys.j0 kq t350 t353 t354 x13_11 t359 t360 t361 t362 t363 t364 t376 t377 t378 t388 t389 t390 t391 t392 t393 = some true) ∧ Aside0 (kq ≤ k) ∧ Aside0 (Kd.R k36 36 wc w.heap.size (fun k_ => some k_ ≠ ((.slice ai t364.length ah) : Value).ownBlock ∧ some k_ ≠ ((.slice ac t378.length ad) : Value).ownBlock ∧ some k_ ≠ ((.slice al t393.length am) : Value).ownBlock) (.slice (some ad387) t350.length au) t350) ∧ Aside0 (Kd.R (Kd.int .i64) 2 wc w.heap.size (fun _ => True) v13 x13_11) ∧ Aside0 (Kd.R k36 36 wc w.heap.size (fun k_ => some k_ ≠ ((.slice (some ad387) t350.length au) : Value).ownBlock ∧ some k_ ≠ ((.slice ac t378.length ad) : Value).ownBlock ∧ some k_ ≠ ((.slice al t393.length am) : Value).ownBlock) (.slice ai t364.length ah) t364) ∧ Aside0 (Kd.R k36 36 wc w.heap.size (fun k_ => some k_ ≠ ((.slice (some ad387) t350.length au) : Value).ownBlock ∧ some k_ ≠ ((.slice ai t364.length ah) : Value).ownBlock ∧ some k_ ≠ ((.slice al t393.length am) : Value).ownBlock) (.slice ac t378.length ad) t378) ∧ Aside0 (Kd.R k36 36 wc w.heap.size (fun k_ => some k_ ≠ ((.slice (some ad387) t350.length au) : Value).ownBlock ∧ some k_ ≠ ((.slice ai t364.length ah) : Value).ownBlock ∧ some k_ ≠ ((.slice ac t378.length ad) : Value).ownBlock) (.slice al t393.length am) t393) ∧ Aside0 (wc.heap[a6]? = some (.cells #[.int .i64 t359,.int .i64 t360,.int .i64 t361,.int .i64 t362,.int .i64 t363,(.slice ai t364.length ah)] 30 (0,0))) ∧ Aside0 (wc.heap[a7]? = some (.cells #[.int .i64 t376,.int .i64 t377,(.slice ac t378.length ad)] 33 (0,0))) ∧ Aside0 (wc.heap[a9]? = some (.cells #[.int .i64 t388,.int .i64 t389,.int .i64 t390,.int .i64 t391,.int .i64 t392,(.slice al t393.length am)] 30 (0,0))) ∧ Aside0 (Below w.heap.size w wc))
 case first =>
  have H:=bn.out
  clear bn
  replace H:=iD_ H
  obtain ⟨c38b0,H⟩ | ⟨c38b0,H⟩:=H
  rotate_left
  ·replace c38b0 : decide (t351 < t352) = false:=c38b0
   (first | rw [c38b0] | (simp only [i64_w,i32_w];rw [c38b0]) | skip)
   have H':=Z_ H
   clear H
   go_wp2
   go_meet
   case rel => exact ⟨_,(y397),H',Ol_,⟨Rk_ a3⟩,⟨Rk_ ax⟩,⟨Rk_ ab⟩,⟨Rk_ ae⟩,⟨Rk_ aq⟩,⟨Bk_ a1⟩,⟨Bk_ a2⟩,⟨Bk_ a0⟩,⟨Lb_⟩⟩
  rotate_right
  replace c38b0 : decide (t351 < t352) = true:=c38b0
  (first | rw [c38b0] | (simp only [i64_w,i32_w];rw [c38b0]) | skip)
  replace H:=iN_ H
  obtain ⟨c39,H⟩:=H
  have ci:=Z_ c39
  clear c39
  obtain ⟨y400,hy400⟩ : ∃ y_ : List Int,y_ = (y397 ++ [t352]):=⟨_,rfl⟩
  replace H : (laws_FnKeys.j0 k t350 t353 t354 y400 t359 t360 t361 t362 t363 t364 t376 t377 t378 t388 t389 t390 t391 t392 t393) = some true:=by first | (rw [hy400];with_reducible exact H) | (have H2_:=(Option.bind_some _ _).symm.trans H;rw [hy400];with_reducible exact H2_) | (have H2_:=(Option.bind_some _ _).symm.trans H;with_reducible exact H2_) | with_reducible exact H | (rw [hy400];exact H) | exact H
  have cj:=Z_ hy400
  clear hy400
  have H':=Z_ H
  clear H
  go_wp2_with (first | (refine upon_field_ (ty:=2) 0 Try.underlying30 Try.underlying2 rfl rfl rfl ?_) | (refine upon_field_ (ty:=2) 0 Try.underlying33 Try.underlying2 rfl rfl rfl ?_) | (refine upon_field_ (ty:=37) 1 Try.underlying42 Try.underlying37 rfl rfl rfl ?_) | ((with_reducible refine gate_builtin (b:=.append) (xs:=#[.tmp 86,.tmp 88]) rfl ?_);(try (refine gate_guard (by rfl) ?_;dsimp only));at_builtin;refine Kd.R_append (Kd.int .i64) (w0:=w) w.heap.size rfl (.tmp 86) (.tmp 88) 37 2 (.int .i64 0) 8 rfl Try.underlying37 info2 rfl (by decide) (by omega) v398 y397 t352 [.int .i64 t352] (fun _ => True) (fun _ => False) rfl rfl ?aP (fun _ hk => hk.elim) ?aF ?aO ?aB ?aS ?aL ?_;(case aP => exact rfl);(case aB => exact Lb_);(case aF => exact (fun _ _ => trivial));(case aO => exact (Rk_ ax));(case aS => exact (below_size Lb_));(case aL => have:=ci.out;omega);intro v401 w40 ho hb hg hat;rw [← cj.out] at ho;replace a3:=Z_ (Kd.R_over' (Rk_ a3) (Kd.R_typed (Rk_ ax)) (by decide) hg);replace ab:=Z_ (Kd.R_over' (Rk_ ab) (Kd.R_typed (Rk_ ax)) (by decide) hg);replace a1:=Z_ (blk_grown (g:=a6) (o:=.cells #[.int .i64 t359,.int .i64 t360,.int .i64 t361,.int .i64 t362,.int .i64 t363,.slice ai t364.length ah] 30 (0,0)) (Bk_ a1) hg (Kd.R_ne ax.out a1.out (by decide)));replace ae:=Z_ (Kd.R_over' (Rk_ ae) (Kd.R_typed (Rk_ ax)) (by decide) hg);replace a2:=Z_ (blk_grown (g:=a7) (o:=.cells #[.int .i64 t376,.int .i64 t377,.slice ac t378.length ad] 33 (0,0)) (Bk_ a2) hg (Kd.R_ne ax.out a2.out (by decide)));replace aq:=Z_ (Kd.R_over' (Rk_ aq) (Kd.R_typed (Rk_ ax)) (by decide) hg);replace a0:=Z_ (blk_grown (g:=a9) (o:=.cells #[.int .i64 t388,.int .i64 t389,.int .i64 t390,.int .i64 t391,.int .i64 t392,.slice al t393.length am] 30 (0,0)) (Bk_ a0) hg (Kd.R_ne ax.out a0.out (by decide)));replace HB:=Z_ (hb);have ck:=Z_ (ho);clear ax ho hb hg hat))
  go_meet
  case rel => exact ⟨_,(y400),H',Ol_,⟨Rk_ a3⟩,⟨Rk_ ck⟩,⟨Rk_ ab⟩,⟨Rk_ ae⟩,⟨Rk_ aq⟩,⟨Bk_ a1⟩,⟨Bk_ a2⟩,⟨Bk_ a0⟩,⟨Lb_⟩⟩
 case rest =>
  clear bn
  try clear c1
  try clear c2
  try clear p2
  try clear c3
  try clear p3
  try clear q3
  try clear hx3
  try clear c6
  try clear c6b0
  try clear c6b1
  try clear c7
  try clear c8
  try clear c8b0
  try clear c8b1
  try clear c9
  try clear c9b0
  try clear c10
  try clear c10b0
  try clear c21
  try clear c38
  try clear c38b0
  try clear p38
  try clear q38
  try clear hx38
  try clear c39
  try clear hx387_0
  try clear hx387_1
  try clear hx387_2
  try clear hx387_3
  try clear p387
  try clear q387
  obtain ⟨kq,x13_11,HA,HJ11,ar,aa,a5,a4,a8,a1,a2,a0,HB⟩:=hcut
  cases kq with
  | zero => exact absurd HA.out (by simp [laws_FnKeys.j0])
  | succ kj11 =>
   have H:=HA.out
   clear HA
   simp only [laws_FnKeys.j0] at H
   have bo:=Z_ H
   clear H
   go_upto_region 14 with (fail)
   go_cut [14] (fun v14 wc => ∃ (kq : Nat) (x14_40 : Bool),v14 = .bool x14_40 ∧ Aside0 (laws_FnKeys.j1 kq x13_11 x14_40 t359 t360 t361 t362 t363 t364 t376 t377 t378 t388 t389 t390 t391 t392 t393 = some true) ∧ Aside0 (kq ≤ kj11) ∧ Aside0 (Kd.R (Kd.int .i64) 2 wc w.heap.size (fun _ => True) u13 x13_11) ∧ Aside0 (Kd.R k36 36 wc w.heap.size (fun k_ => some k_ ≠ ((.slice ac t378.length ad) : Value).ownBlock ∧ some k_ ≠ ((.slice al t393.length am) : Value).ownBlock) (.slice ai t364.length ah) t364) ∧ Aside0 (Kd.R k36 36 wc w.heap.size (fun k_ => some k_ ≠ ((.slice ai t364.length ah) : Value).ownBlock ∧ some k_ ≠ ((.slice al t393.length am) : Value).ownBlock) (.slice ac t378.length ad) t378) ∧ Aside0 (Kd.R k36 36 wc w.heap.size (fun k_ => some k_ ≠ ((.slice ai t364.length ah) : Value).ownBlock ∧ some k_ ≠ ((.slice ac t378.length ad) : Value).ownBlock) (.slice al t393.length am) t393) ∧ Aside0 (wc.heap[a6]? = some (.cells #[.int .i64 t359,.int .i64 t360,.int .i64 t361,.int .i64 t362,.int .i64 t363,(.slice ai t364.length ah)] 30 (0,0))) ∧ Aside0 (wc.heap[a7]? = some (.cells #[.int .i64 t376,.int .i64 t377,(.slice ac t378.length ad)] 33 (0,0))) ∧ Aside0 (wc.heap[a9]? = some (.cells #[.int .i64 t388,.int .i64 t389,.int .i64 t390,.int .i64 t391,.int .i64 t392,(.slice al t393.length am)] 30 (0,0))) ∧ Aside0 (Below w.heap.size w wc))
   case first =>
    have H:=bo.out
    clear bo
    replace H:=bS_ H
    obtain ⟨t403,cq,H⟩:=H
    replace H:=iB_ H
    obtain ⟨rfl,H⟩ | ⟨rfl,H⟩:=H
    ·have H':=Z_ H
     clear H
     try go_wp2
     replace ar:=Z_ (rD_ ar.out)
     replace aa:=Z_ (rD_ aa.out)
     replace a5:=Z_ (rD_ a5.out)
     replace a4:=Z_ (rD_ a4.out)
     replace a8:=Z_ (rD_ a8.out)
     replace a1:=Z_ (bD_ a1.out)
     replace a2:=Z_ (bD_ a2.out)
     replace a0:=Z_ (bD_ a0.out)
     replace HB:=Z_ (lD_ HB.out)
     obtain ⟨ct,cu,eo45⟩:=Kd.R_slice aa.out
     (first | subst eo45 | (injection eo45 with f1_ f2_ f3_;have f4_:=f1_.symm;have f5_:=f3_.symm;clear f1_ f2_ f3_;subst f4_;subst f5_))
     refine start_ (n:=19) (S:=fun w' => w'.cell? ⟨a7,0,none⟩ = some (.int .i64 t376) ∧ w'.cell? ⟨a7,1,none⟩ = some (.int .i64 t377) ∧ w'.cell? ⟨a7,2,none⟩ = some (.slice ac t378.length ad)) (ds:=[]) laws_FnKeys.calls.b1 (by kernel_rfl) rfl rfl ⟨(blk_cell a2.out 0).trans rfl,(blk_cell a2.out 1).trans rfl,(blk_cell a2.out 2).trans rfl⟩ (fun hHeld => ?_);refine with_tabW laws_FnKeys.tab14 laws_FnKeys.bits14 (fun HT_ HW_ => ?_)
     generalize wc.drew = w44 at ar aa a5 a4 a8 a1 a2 a0 HB hHeld ⊢
     refine pure_ (i:=0) (N:=some 90) (v:=?_) (a':=?_) laws_FnKeys.calls.b3 rfl rfl (any_of HT_.out (by kernel_rfl)) (fun _ _ _ h => h) (Or.inl ⟨by rfl,?_⟩) ?_ ?_
     rotate_left
     ·intro w'
      go_simp
      with_reducible rfl
     rotate_left
     ·simp only [Act.put,lA_,lZ_,lS_,i64_w,i32_w]
      rfl
     refine pure_ (i:=2) (N:=some 92) (v:=?_) (a':=?_) laws_FnKeys.calls.b4 rfl rfl (any_of HT_.out (by kernel_rfl)) (fun _ _ _ h => h) (Or.inl ⟨by rfl,?_⟩) ?_ ?_
     rotate_left
     ·intro w'
      go_simp
      with_reducible rfl
     rotate_left
     ·simp only [Act.put,lA_,lZ_,lS_,i64_w,i32_w]
      rfl
     refine pure_ (i:=3) (N:=some 93) (v:=?_) (a':=?_) laws_FnKeys.calls.b5 rfl rfl (any_of HT_.out (by kernel_rfl)) (fun _ _ _ h => h) (Or.inl ⟨by rfl,?_⟩) ?_ ?_
     rotate_left
     ·intro w'
      go_simp
      with_reducible rfl
     rotate_left
     ·simp only [Act.put,lA_,lZ_,lS_,i64_w,i32_w]
      rfl
     refine take_ (i:=1) (N:=some 91) (v:=?_) (a':=?_) laws_FnKeys.calls.b9 rfl rfl (take_ofW HT_.out HW_.out (by kernel_rfl)) (fun _ _ _ h => h) (Or.inl ⟨by rfl,?_⟩) hHeld ?_ ?_
     rotate_left
     ·rintro w' ⟨s0,s1,s2⟩
      go_simp
      with_reducible rfl
     rotate_left
     ·simp only [Act.put,lA_,lZ_,lS_,i64_w,i32_w]
      rfl
     refine one_ (i:=4) (N:=some 94) laws_FnKeys.calls.b11 rfl rfl (one_of HT_.out (by kernel_rfl)) (by decide) (fun K hK => ?_)
     refine goes_ Try.func12 (by kernel_rfl) rfl #[.slice ac t378.length ad,.slice ct x13_11.length cu,.int .i64 t353] (by rfl) rfl rfl (by (try simp only [List.map_toArray,List.map_cons,List.map_nil]);first | done | rfl | (simp only [List.length_drop,List.length_take];rfl)) ?_
     with_reducible refine (impl_Derives.calls kj11 _ _ t378 _ _ x13_11 t353 true _ ?side1 ?side2 ?side3 ?side4 cq.out).mono ?_
     (case side1 => exact Rc_ a4)
     (case side2 => exact (Kd.R_reads' a4.out).2.1)
     (case side3 => exact Rc_ aa)
     (case side4 => exact (Kd.R_reads' aa.out).2.1)
     rintro e w46 ⟨rfl,hb⟩
     refine ⟨_,rfl,?_⟩
     replace ar:=Z_ (Kd.R_below (Rk_ ar) hb)
     replace aa:=Z_ (Kd.R_below (Rk_ aa) hb)
     replace a5:=Z_ (Kd.R_below (Rk_ a5) hb)
     replace a4:=Z_ (Kd.R_below (Rk_ a4) hb)
     replace a8:=Z_ (Kd.R_below (Rk_ a8) hb)
     replace a1:=Z_ (bB_ (g:=a6) (o:=.cells #[.int .i64 t359,.int .i64 t360,.int .i64 t361,.int .i64 t362,.int .i64 t363,.slice ai t364.length ah] 30 (0,0)) (Bk_ a1) hb)
     replace a2:=Z_ (bB_ (g:=a7) (o:=.cells #[.int .i64 t376,.int .i64 t377,.slice ac t378.length ad] 33 (0,0)) (Bk_ a2) hb)
     replace a0:=Z_ (bB_ (g:=a9) (o:=.cells #[.int .i64 t388,.int .i64 t389,.int .i64 t390,.int .i64 t391,.int .i64 t392,.slice al t393.length am] 30 (0,0)) (Bk_ a0) hb)
     replace HB:=Z_ (lP_ Lb_ hb)
     (try clear hb)
     (try clear hb2)
     (try clear hk)
     (try clear hi)
     refine hK.out _ _ ⟨(blk_cell a2.out 0).trans rfl,(blk_cell a2.out 1).trans rfl,(blk_cell a2.out 2).trans rfl⟩ (fun hHeld => ?_)
     clear hK K
     refine norm_ (a':=?_) ?_ ?_
     rotate_left
     ·show Act.put _ (some 94) _ = _
      simp only [Act.put,lA_,lZ_,lS_,i64_w,i32_w]
      rfl
     refine pure_ (i:=5) (N:=some 95) (v:=?_) (a':=?_) laws_FnKeys.calls.b13 rfl rfl (any_of HT_.out (by kernel_rfl)) (fun _ _ _ h => h) (Or.inl ⟨by rfl,?_⟩) ?_ ?_
     rotate_left
     ·intro w'
      go_simp
      with_reducible rfl
     rotate_left
     ·simp only [Act.put,lA_,lZ_,lS_,i64_w,i32_w]
      rfl
     refine pure_ (i:=6) (N:=some 96) (v:=?_) (a':=?_) laws_FnKeys.calls.b15 rfl rfl (any_of HT_.out (by kernel_rfl)) (fun _ _ _ h => h) (Or.inl ⟨by rfl,?_⟩) ?_ ?_
     rotate_left
     ·intro w'
      go_simp
      with_reducible rfl
     rotate_left
     ·simp only [Act.put,lA_,lZ_,lS_,i64_w,i32_w]
      rfl
     refine pure_ (i:=7) (N:=some 97) (v:=undef) (a':=?_) laws_FnKeys.calls.b17 rfl rfl (any_of HT_.out (by kernel_rfl)) (fun _ _ _ h => h) (Or.inr ⟨by rfl,rfl⟩) ?_ ?_
     rotate_left
     ·simp only [Act.put,lA_,lZ_,lS_,i64_w,i32_w]
      rfl
     refine pure_ (i:=8) (N:=some 98) (v:=undef) (a':=?_) (Bt 19 511) rfl rfl (any_of HT_.out (by kernel_rfl)) (fun _ _ _ h => h) (Or.inr ⟨by rfl,rfl⟩) ?_ ?_
     rotate_left
     ·simp only [Act.put,lA_,lZ_,lS_,i64_w,i32_w]
      rfl
     refine pure_ (i:=9) (N:=some 99) (v:=undef) (a':=?_) (Bt 19 1023) rfl rfl (any_of HT_.out (by kernel_rfl)) (fun _ _ _ h => h) (Or.inr ⟨by rfl,rfl⟩) ?_ ?_
     rotate_left
     ·simp only [Act.put,lA_,lZ_,lS_,i64_w,i32_w]
      rfl
     refine pure_ (i:=10) (N:=some 100) (v:=undef) (a':=?_) (Bt 19 2047) rfl rfl (any_of HT_.out (by kernel_rfl)) (fun _ _ _ h => h) (Or.inr ⟨by rfl,rfl⟩) ?_ ?_
     rotate_left
     ·simp only [Act.put,lA_,lZ_,lS_,i64_w,i32_w]
      rfl
     refine pure_ (i:=11) (N:=some 101) (v:=undef) (a':=?_) (Bt 19 4095) rfl rfl (any_of HT_.out (by kernel_rfl)) (fun _ _ _ h => h) (Or.inr ⟨by rfl,rfl⟩) ?_ ?_
     rotate_left
     ·simp only [Act.put,lA_,lZ_,lS_,i64_w,i32_w]
      rfl
     refine pure_ (i:=12) (N:=some 102) (v:=undef) (a':=?_) (Bt 19 8191) rfl rfl (any_of HT_.out (by kernel_rfl)) (fun _ _ _ h => h) (Or.inr ⟨by rfl,rfl⟩) ?_ ?_
     rotate_left
     ·simp only [Act.put,lA_,lZ_,lS_,i64_w,i32_w]
      rfl
     refine pure_ (i:=13) (N:=some 103) (v:=undef) (a':=?_) laws_FnKeys.calls.b24 rfl rfl (any_of HT_.out (by kernel_rfl)) (fun _ _ _ h => h) (Or.inr ⟨by rfl,rfl⟩) ?_ ?_
     rotate_left
     ·simp only [Act.put,lA_,lZ_,lS_,i64_w,i32_w]
      rfl
     refine pure_ (i:=14) (N:=some 104) (v:=undef) (a':=?_) laws_FnKeys.calls.b26 rfl rfl (any_of HT_.out (by kernel_rfl)) (fun _ _ _ h => h) (Or.inr ⟨by rfl,rfl⟩) ?_ ?_
     rotate_left
     ·simp only [Act.put,lA_,lZ_,lS_,i64_w,i32_w]
      rfl
     refine pure_ (i:=15) (N:=some 105) (v:=undef) (a':=?_) laws_FnKeys.calls.b29 rfl rfl (any_of HT_.out (by kernel_rfl)) (fun _ _ _ h => h) (Or.inr ⟨by rfl,rfl⟩) ?_ ?_
     rotate_left
     ·simp only [Act.put,lA_,lZ_,lS_,i64_w,i32_w]
      rfl
     refine pure_ (i:=16) (N:=some 106) (v:=undef) (a':=?_) laws_FnKeys.calls.b31 rfl rfl (any_of HT_.out (by kernel_rfl)) (fun _ _ _ h => h) (Or.inr ⟨by rfl,rfl⟩) ?_ ?_
     rotate_left
     ·simp only [Act.put,lA_,lZ_,lS_,i64_w,i32_w]
      rfl
     refine pure_ (i:=17) (N:=some 107) (v:=?_) (a':=?_) laws_FnKeys.calls.b34 rfl rfl (any_of HT_.out (by kernel_rfl)) (fun _ _ _ h => h) (Or.inl ⟨by rfl,?_⟩) ?_ ?_
     rotate_left
     ·intro w'
      go_simp
      with_reducible rfl
     rotate_left
     ·simp only [Act.put,lA_,lZ_,lS_,i64_w,i32_w]
      rfl
     refine pure_ (i:=18) (N:=some 14) (v:=?_) (a':=?_) laws_FnKeys.calls.b96 rfl rfl (any_of HT_.out (by kernel_rfl)) (fun _ _ _ h => h) (Or.inl ⟨by rfl,?_⟩) ?_ ?_
     rotate_left
     ·intro w'
      go_simp
      with_reducible rfl
     rotate_left
     ·simp only [Act.put,lA_,lZ_,lS_,i64_w,i32_w]
      rfl
     refine done_ (done_of HT_.out (by kernel_rfl)) ?_
     try go_wp2
     go_meet
     case rel => exact ⟨_,(false),Sr_,H',⟨by have:=HJ11.out;first | omega | exact Nat.le_refl _⟩,⟨Rk_ aa⟩,⟨by (with_reducible repeat first | apply rA_ | apply rN_ | apply rD_);exact Kd.R_mono a5.out (fun _ hk => ⟨hk.2.1,hk.2.2⟩)⟩,⟨by (with_reducible repeat first | apply rA_ | apply rN_ | apply rD_);exact Kd.R_mono a4.out (fun _ hk => ⟨hk.2.1,hk.2.2⟩)⟩,⟨by (with_reducible repeat first | apply rA_ | apply rN_ | apply rD_);exact Kd.R_mono a8.out (fun _ hk => ⟨hk.2.1,hk.2.2⟩)⟩,⟨Bk_ a1⟩,⟨Bk_ a2⟩,⟨Bk_ a0⟩,⟨Lb_⟩⟩
    replace H:=iM_ H
    obtain ⟨c47b0,H⟩:=H
    (first | rw [c47b0] | (simp only [i64_w,i32_w];rw [c47b0]) | skip)
    replace H:=iM_ H
    obtain ⟨c48b0,H⟩:=H
    replace H:=bS_ H
    obtain ⟨t405,d0,H⟩:=H
    have H':=Z_ H
    clear H
    try go_wp2
    replace ar:=Z_ (rD_ ar.out)
    replace aa:=Z_ (rD_ aa.out)
    replace a5:=Z_ (rD_ a5.out)
    replace a4:=Z_ (rD_ a4.out)
    replace a8:=Z_ (rD_ a8.out)
    replace a1:=Z_ (bD_ a1.out)
    replace a2:=Z_ (bD_ a2.out)
    replace a0:=Z_ (bD_ a0.out)
    replace HB:=Z_ (lD_ HB.out)
    obtain ⟨bx,bz,eo51⟩:=Kd.R_slice aa.out
    (first | subst eo51 | (injection eo51 with f1_ f2_ f3_;have f4_:=f1_.symm;have f5_:=f3_.symm;clear f1_ f2_ f3_;subst f4_;subst f5_))
    have p404 : 0 ≤ (t354 : Int):=dA_
    have q404 : t354 < (t350.length : Int):=dA_
    obtain ⟨ad404,e404,hx404_0,hx404_1,hx404_2,hx404_3⟩:=at_T36 (Kd.R_reads' ar.out).2.2 t354 p404 q404
    obtain rfl : ad387 = ad404:=(by injection e404)
    replace p404:=eq_true p404
    replace q404:=eq_true q404
    refine start_ (n:=19) (S:=fun w' => w'.cell? ⟨a7,0,none⟩ = some (.int .i64 t376) ∧ w'.cell? ⟨a7,1,none⟩ = some (.int .i64 t377) ∧ w'.cell? ⟨a7,2,none⟩ = some (.slice ac t378.length ad) ∧ w'.cell? (ad387.add ((t354).toNat * 4)) = some (.int .i64 ((rd_T36 t350 t354).f0)) ∧ w'.cell? ⟨(ad387.add ((t354).toNat * 4)).block,(ad387.add ((t354).toNat * 4)).off + 1,none⟩ = some (.int .i64 ((rd_T36 t350 t354).f1)) ∧ w'.cell? ⟨(ad387.add ((t354).toNat * 4)).block,(ad387.add ((t354).toNat * 4)).off + 2,none⟩ = some (.int .i64 ((rd_T36 t350 t354).f2)) ∧ w'.cell? ⟨(ad387.add ((t354).toNat * 4)).block,(ad387.add ((t354).toNat * 4)).off + 3,none⟩ = some (.int .i64 ((rd_T36 t350 t354).f3))) (ds:=[]) laws_FnKeys.calls.b1 (by kernel_rfl) rfl rfl ⟨(blk_cell a2.out 0).trans rfl,(blk_cell a2.out 1).trans rfl,(blk_cell a2.out 2).trans rfl,hx404_0,hx404_1,hx404_2,hx404_3⟩ (fun hHeld => ?_);refine with_tabW laws_FnKeys.tab14 laws_FnKeys.bits14 (fun HT_ HW_ => ?_)
    generalize wc.drew = w50 at ar aa a5 a4 a8 a1 a2 a0 HB hx404_0 hx404_1 hx404_2 hx404_3 hHeld ⊢
    refine pure_ (i:=0) (N:=some 90) (v:=?_) (a':=?_) laws_FnKeys.calls.b3 rfl rfl (any_of HT_.out (by kernel_rfl)) (fun _ _ _ h => h) (Or.inl ⟨by rfl,?_⟩) ?_ ?_
    rotate_left
    ·intro w'
     go_simp
     with_reducible rfl
    rotate_left
    ·simp only [Act.put,lA_,lZ_,lS_,i64_w,i32_w]
     rfl
    refine pure_ (i:=2) (N:=some 92) (v:=?_) (a':=?_) laws_FnKeys.calls.b4 rfl rfl (any_of HT_.out (by kernel_rfl)) (fun _ _ _ h => h) (Or.inl ⟨by rfl,?_⟩) ?_ ?_
    rotate_left
    ·intro w'
     go_simp
     with_reducible rfl
    rotate_left
    ·simp only [Act.put,lA_,lZ_,lS_,i64_w,i32_w]
     rfl
    refine pure_ (i:=3) (N:=some 93) (v:=?_) (a':=?_) laws_FnKeys.calls.b5 rfl rfl (any_of HT_.out (by kernel_rfl)) (fun _ _ _ h => h) (Or.inl ⟨by rfl,?_⟩) ?_ ?_
    rotate_left
    ·intro w'
     go_simp
     with_reducible rfl
    rotate_left
    ·simp only [Act.put,lA_,lZ_,lS_,i64_w,i32_w]
     rfl
    refine take_ (i:=1) (N:=some 91) (v:=?_) (a':=?_) laws_FnKeys.calls.b9 rfl rfl (take_ofW HT_.out HW_.out (by kernel_rfl)) (fun _ _ _ h => h) (Or.inl ⟨by rfl,?_⟩) hHeld ?_ ?_
    rotate_left
    ·rintro w' ⟨s0,s1,s2,s3,s4,s5,s6⟩
     go_simp
     with_reducible rfl
    rotate_left
    ·simp only [Act.put,lA_,lZ_,lS_,i64_w,i32_w]
     rfl
    refine one_ (i:=4) (N:=some 94) laws_FnKeys.calls.b11 rfl rfl (one_of HT_.out (by kernel_rfl)) (by decide) (fun K hK => ?_)
    refine goes_ Try.func12 (by kernel_rfl) rfl #[.slice ac t378.length ad,.slice bx x13_11.length bz,.int .i64 t353] (by rfl) rfl rfl (by (try simp only [List.map_toArray,List.map_cons,List.map_nil]);first | done | rfl | (simp only [List.length_drop,List.length_take];rfl)) ?_
    with_reducible refine (impl_Derives.calls kj11 _ _ t378 _ _ x13_11 t353 false _ ?side1 ?side2 ?side3 ?side4 cq.out).mono ?_
    (case side1 => exact Rc_ a4)
    (case side2 => exact (Kd.R_reads' a4.out).2.1)
    (case side3 => exact Rc_ aa)
    (case side4 => exact (Kd.R_reads' aa.out).2.1)
    rintro e w52 ⟨rfl,hb⟩
    have HS3_:=(hb.cell (World.block_lt_of_cell? _ _ (hHeld.2.2.2.1))).trans (hHeld.2.2.2.1)
    have HS4_:=(hb.cell (World.block_lt_of_cell? _ _ (hHeld.2.2.2.2.1))).trans (hHeld.2.2.2.2.1)
    have HS5_:=(hb.cell (World.block_lt_of_cell? _ _ (hHeld.2.2.2.2.2.1))).trans (hHeld.2.2.2.2.2.1)
    have HS6_:=(hb.cell (World.block_lt_of_cell? _ _ (hHeld.2.2.2.2.2.2))).trans (hHeld.2.2.2.2.2.2)
    refine ⟨_,rfl,?_⟩
    replace ar:=Z_ (Kd.R_below (Rk_ ar) hb)
    replace aa:=Z_ (Kd.R_below (Rk_ aa) hb)
    replace a5:=Z_ (Kd.R_below (Rk_ a5) hb)
    replace a4:=Z_ (Kd.R_below (Rk_ a4) hb)
    replace a8:=Z_ (Kd.R_below (Rk_ a8) hb)
    replace a1:=Z_ (bB_ (g:=a6) (o:=.cells #[.int .i64 t359,.int .i64 t360,.int .i64 t361,.int .i64 t362,.int .i64 t363,.slice ai t364.length ah] 30 (0,0)) (Bk_ a1) hb)
    replace a2:=Z_ (bB_ (g:=a7) (o:=.cells #[.int .i64 t376,.int .i64 t377,.slice ac t378.length ad] 33 (0,0)) (Bk_ a2) hb)
    replace a0:=Z_ (bB_ (g:=a9) (o:=.cells #[.int .i64 t388,.int .i64 t389,.int .i64 t390,.int .i64 t391,.int .i64 t392,.slice al t393.length am] 30 (0,0)) (Bk_ a0) hb)
    replace HB:=Z_ (lP_ Lb_ hb)
    (try clear hb)
    (try clear hb2)
    (try clear hk)
    (try clear hi)
    refine hK.out _ _ ⟨(blk_cell a2.out 0).trans rfl,(blk_cell a2.out 1).trans rfl,(blk_cell a2.out 2).trans rfl,HS3_,HS4_,HS5_,HS6_⟩ (fun hHeld => ?_)
    clear hK K
    refine norm_ (a':=?_) ?_ ?_
    rotate_left
    ·show Act.put _ (some 94) _ = _
     simp only [Act.put,lA_,lZ_,lS_,i64_w,i32_w]
     rfl
    refine pure_ (i:=5) (N:=some 95) (v:=?_) (a':=?_) laws_FnKeys.calls.b13 rfl rfl (any_of HT_.out (by kernel_rfl)) (fun _ _ _ h => h) (Or.inl ⟨by rfl,?_⟩) ?_ ?_
    rotate_left
    ·intro w'
     go_simp
     with_reducible rfl
    rotate_left
    ·simp only [Act.put,lA_,lZ_,lS_,i64_w,i32_w]
     rfl
    refine pure_ (i:=6) (N:=some 96) (v:=?_) (a':=?_) laws_FnKeys.calls.b15 rfl rfl (any_of HT_.out (by kernel_rfl)) (fun _ _ _ h => h) (Or.inl ⟨by rfl,?_⟩) ?_ ?_
    rotate_left
    ·intro w'
     go_simp
     with_reducible rfl
    rotate_left
    ·simp only [Act.put,lA_,lZ_,lS_,i64_w,i32_w]
     rfl
    refine pure_ (i:=7) (N:=some 97) (v:=?_) (a':=?_) laws_FnKeys.calls.b17 rfl rfl (any_of HT_.out (by kernel_rfl)) (fun _ _ _ h => h) (Or.inl ⟨by rfl,?_⟩) ?_ ?_
    rotate_left
    ·intro w'
     go_simp
     with_reducible rfl
    rotate_left
    ·simp only [Act.put,lA_,lZ_,lS_,i64_w,i32_w]
     rfl
    refine pu_ 9 (some 99) (Bt 19 767) (any_of HT_.out (by kernel_rfl)) ?_
    refine pu_ 10 (some 100) (Bt 19 1791) (any_of HT_.out (by kernel_rfl)) ?_
    refine pu_ 11 (some 101) (Bt 19 3839) (any_of HT_.out (by kernel_rfl)) ?_
    refine pu_ 12 (some 102) (Bt 19 7935) (any_of HT_.out (by kernel_rfl)) ?_
    refine pu_ 13 (some 103) (Bt 19 16127) (any_of HT_.out (by kernel_rfl)) ?_
    refine take_ (i:=8) (N:=some 98) (v:=?_) (a':=?_) laws_FnKeys.calls.b24 rfl rfl (take_ofW HT_.out HW_.out (by kernel_rfl)) (fun _ _ _ h => h) (Or.inl ⟨by rfl,?_⟩) hHeld ?_ ?_
    rotate_left
    ·rintro w' ⟨s0,s1,s2,s3,s4,s5,s6⟩
     go_simp
     with_reducible rfl
    rotate_left
    ·simp only [Act.put,lA_,lZ_,lS_,i64_w,i32_w]
     rfl
    refine take_ (i:=14) (N:=some 104) (v:=?_) (a':=?_) laws_FnKeys.calls.b26 rfl rfl (take_ofW HT_.out HW_.out (by kernel_rfl)) (fun _ _ _ h => h) (Or.inl ⟨by rfl,?_⟩) hHeld ?_ ?_
    rotate_left
    ·rintro w' ⟨s0,s1,s2,s3,s4,s5,s6⟩
     go_simp
     with_reducible rfl
    rotate_left
    ·simp only [Act.put,lA_,lZ_,lS_,i64_w,i32_w]
     rfl
    refine one_ (i:=15) (N:=some 105) laws_FnKeys.calls.b29 rfl rfl (one_of HT_.out (by kernel_rfl)) (by decide) (fun K hK => ?_)
    refine goes_ Try.func12 (by kernel_rfl) rfl #[.slice ac t378.length ad,.slice bx x13_11.length bz,.int .i64 ((rd_T36 t350 t354).f1)] (by rfl) rfl rfl (by (try simp only [List.map_toArray,List.map_cons,List.map_nil]);first | done | rfl | (simp only [List.length_drop,List.length_take];rfl)) ?_
    with_reducible refine (impl_Derives.calls kj11 _ _ t378 _ _ x13_11 ((rd_T36 t350 t354).f1) t405 _ ?side1 ?side2 ?side3 ?side4 d0.out).mono ?_
    (case side1 => exact Rc_ a4)
    (case side2 => exact (Kd.R_reads' a4.out).2.1)
    (case side3 => exact Rc_ aa)
    (case side4 => exact (Kd.R_reads' aa.out).2.1)
    rintro e w53 ⟨rfl,hb⟩
    have HS3_:=(hb.cell (World.block_lt_of_cell? _ _ (hHeld.2.2.2.1))).trans (hHeld.2.2.2.1)
    have HS4_:=(hb.cell (World.block_lt_of_cell? _ _ (hHeld.2.2.2.2.1))).trans (hHeld.2.2.2.2.1)
    have HS5_:=(hb.cell (World.block_lt_of_cell? _ _ (hHeld.2.2.2.2.2.1))).trans (hHeld.2.2.2.2.2.1)
    have HS6_:=(hb.cell (World.block_lt_of_cell? _ _ (hHeld.2.2.2.2.2.2))).trans (hHeld.2.2.2.2.2.2)
    refine ⟨_,rfl,?_⟩
    replace ar:=Z_ (Kd.R_below (Rk_ ar) hb)
    replace aa:=Z_ (Kd.R_below (Rk_ aa) hb)
    replace a5:=Z_ (Kd.R_below (Rk_ a5) hb)
    replace a4:=Z_ (Kd.R_below (Rk_ a4) hb)
    replace a8:=Z_ (Kd.R_below (Rk_ a8) hb)
    replace a1:=Z_ (bB_ (g:=a6) (o:=.cells #[.int .i64 t359,.int .i64 t360,.int .i64 t361,.int .i64 t362,.int .i64 t363,.slice ai t364.length ah] 30 (0,0)) (Bk_ a1) hb)
    replace a2:=Z_ (bB_ (g:=a7) (o:=.cells #[.int .i64 t376,.int .i64 t377,.slice ac t378.length ad] 33 (0,0)) (Bk_ a2) hb)
    replace a0:=Z_ (bB_ (g:=a9) (o:=.cells #[.int .i64 t388,.int .i64 t389,.int .i64 t390,.int .i64 t391,.int .i64 t392,.slice al t393.length am] 30 (0,0)) (Bk_ a0) hb)
    replace HB:=Z_ (lP_ Lb_ hb)
    (try clear hb)
    (try clear hb2)
    (try clear hk)
    (try clear hi)
    refine hK.out _ _ ⟨(blk_cell a2.out 0).trans rfl,(blk_cell a2.out 1).trans rfl,(blk_cell a2.out 2).trans rfl,HS3_,HS4_,HS5_,HS6_⟩ (fun hHeld => ?_)
    clear hK K
    refine norm_ (a':=?_) ?_ ?_
    rotate_left
    ·show Act.put _ (some 105) _ = _
     simp only [Act.put,lA_,lZ_,lS_,i64_w,i32_w]
     rfl
    refine pure_ (i:=16) (N:=some 106) (v:=?_) (a':=?_) laws_FnKeys.calls.b31 rfl rfl (any_of HT_.out (by kernel_rfl)) (fun _ _ _ h => h) (Or.inl ⟨by rfl,?_⟩) ?_ ?_
    rotate_left
    ·intro w'
     go_simp
     with_reducible rfl
    rotate_left
    ·simp only [Act.put,lA_,lZ_,lS_,i64_w,i32_w]
     rfl
    refine pure_ (i:=17) (N:=some 107) (v:=?_) (a':=?_) laws_FnKeys.calls.b34 rfl rfl (any_of HT_.out (by kernel_rfl)) (fun _ _ _ h => h) (Or.inl ⟨by rfl,?_⟩) ?_ ?_
    rotate_left
    ·intro w'
     go_simp
     with_reducible rfl
    rotate_left
    ·simp only [Act.put,lA_,lZ_,lS_,i64_w,i32_w]
     rfl
    refine pure_ (i:=18) (N:=some 14) (v:=?_) (a':=?_) laws_FnKeys.calls.b96 rfl rfl (any_of HT_.out (by kernel_rfl)) (fun _ _ _ h => h) (Or.inl ⟨by rfl,?_⟩) ?_ ?_
    rotate_left
    ·intro w'
     go_simp
     with_reducible rfl
    rotate_left
    ·simp only [Act.put,lA_,lZ_,lS_,i64_w,i32_w]
     rfl
    refine done_ (done_of HT_.out (by kernel_rfl)) ?_
    try go_wp2
    go_meet
    case rel => exact ⟨_,(!t405),Sr_,H',⟨by have:=HJ11.out;first | omega | exact Nat.le_refl _⟩,⟨Rk_ aa⟩,⟨by (with_reducible repeat first | apply rA_ | apply rN_ | apply rD_);exact Kd.R_mono a5.out (fun _ hk => ⟨hk.2.1,hk.2.2⟩)⟩,⟨by (with_reducible repeat first | apply rA_ | apply rN_ | apply rD_);exact Kd.R_mono a4.out (fun _ hk => ⟨hk.2.1,hk.2.2⟩)⟩,⟨by (with_reducible repeat first | apply rA_ | apply rN_ | apply rD_);exact Kd.R_mono a8.out (fun _ hk => ⟨hk.2.1,hk.2.2⟩)⟩,⟨Bk_ a1⟩,⟨Bk_ a2⟩,⟨Bk_ a0⟩,⟨Lb_⟩⟩
   case rest =>
    clear bo
    try clear c1
    try clear c2
    try clear p2
    try clear c3
    try clear p3
    try clear q3
    try clear hx3
    try clear c4
    try clear p4
    try clear q4
    try clear hx4
    try clear c6
    try clear c6b0
    try clear c6b1
    try clear c7
    try clear c8
    try clear c8b0
    try clear c8b1
    try clear c9
    try clear c9b0
    try clear c10
    try clear c10b0
    try clear c12
    try clear c21
    try clear c38
    try clear c38b0
    try clear p38
    try clear q38
    try clear hx38
    try clear c39
    try clear p40
    try clear q40
    try clear hx40
    try clear c43
    try clear c47
    try clear c47b0
    try clear c48
    try clear c48b0
    try clear hx387_0
    try clear hx387_1
    try clear hx387_2
    try clear hx387_3
    try clear hx404_0
    try clear hx404_1
    try clear hx404_2
    try clear hx404_3
    try clear p2
    try clear p3
    try clear p38
    try clear p387
    try clear p404
    try clear q3
    try clear q38
    try clear q387
    try clear q404
    obtain ⟨kq,x14_40,rfl,HA,HJ40,aa,a5,a4,a8,a1,a2,a0,HB⟩:=hcut
    cases kq with
    | zero => exact absurd HA.out (by simp [laws_FnKeys.j1])
    | succ kj40 =>
     have H:=HA.out
     clear HA
     simp only [laws_FnKeys.j1] at H
     replace H:=bS_ H
     obtain ⟨t406,bs,H⟩:=H
     replace H:=iE_ H
     obtain ⟨c55b0,c55b1,H⟩ | ⟨c55b0,c55b1,H⟩:=H
     replace H:=iE_ H
     obtain ⟨c56b0,c56b1,H⟩ | ⟨c56b0,c56b1,H⟩:=H
     replace H:=iC_ H
     obtain ⟨c57,H⟩ | ⟨c57,H⟩:=H
     rotate_left
     focus
      have c57b0 : (t389 == t360 && (t390 == t361 && (t391 == t362 && (t392 == t363)))) = false:=by simpa using c57
      (try (have c57b1 : decide (t389 = t360 && (t390 == t361 && (t391 == t362 && (t392 == t363)))) = false:=by simpa using c57))
      (try (have c57b2 : (t389 == t360 && (t390 == t361 && (t391 == t362 && (t392 == t363)))) = false:=by simpa using c57))
      (try (have c57b3 : ¬ (t389 = t360 && (t390 == t361 && (t391 == t362 && (t392 == t363)))):=by simpa using c57))
      clear c57
     rotate_right
     have c57b0 : (t389 == t360 && (t390 == t361 && (t391 == t362 && (t392 == t363)))) = true:=c57
     (try (have c57b1 : decide (t389 = t360 && (t390 == t361 && (t391 == t362 && (t392 == t363)))) = true:=by simpa using c57))
     (try (have c57b2 : (t389 == t360 && (t390 == t361 && (t391 == t362 && (t392 == t363)))) = true:=by simpa using c57))
     clear c57
     replace H:=iC_ H
     obtain ⟨c58,H⟩ | ⟨c58,H⟩:=H
     rotate_left
     focus
      have c58b0 : ((t393.length : Int) == (t378.length : Int)) = false:=beq_eq_false_iff_ne.mpr c58
      have c58b1 : ((t393.length : Int) != (t378.length : Int)) = true:=bne_iff_ne.mpr c58
      have c58b2 : (t393.length == t378.length) = false:=by first | simpa using c58 | (simp at c58 ⊢;omega)
     rotate_right
     have c58b0 : ((t393.length : Int) == (t378.length : Int)) = true:=beq_iff_eq.mpr c58
     have c58b1 : ((t393.length : Int) != (t378.length : Int)) = false:=bne_eq_false_iff_eq.mpr c58
     have c58b2 : (t393.length == t378.length) = true:=by first | simpa using c58 | (simp at c58 ⊢;omega)
     clear c58
     replace H:=iE_ H
     obtain ⟨c59b0,c59b1,H⟩ | ⟨c59b0,c59b1,H⟩:=H
     rotate_left
     replace H:=iE_ H
     obtain ⟨c60b0,c60b1,H⟩ | ⟨c60b0,c60b1,H⟩:=H
     rotate_left
     ·replace H:=iB_ H
      obtain ⟨rfl,H⟩ | ⟨rfl,H⟩:=H
      rotate_left
      ·as_aux_lemma =>
        clear H
        try go_wp2
        replace aa:=Z_ (rD_ aa.out)
        replace a5:=Z_ (rD_ a5.out)
        replace a4:=Z_ (rD_ a4.out)
        replace a8:=Z_ (rD_ a8.out)
        replace a1:=Z_ (bD_ a1.out)
        replace a2:=Z_ (bD_ a2.out)
        replace a0:=Z_ (bD_ a0.out)
        replace HB:=Z_ (lD_ HB.out)
        refine start_ (n:=77) (S:=fun w' => w'.cell? ⟨a6,0,none⟩ = some (.int .i64 t359) ∧ w'.cell? ⟨a6,1,none⟩ = some (.int .i64 t360) ∧ w'.cell? ⟨a6,2,none⟩ = some (.int .i64 t361) ∧ w'.cell? ⟨a6,3,none⟩ = some (.int .i64 t362) ∧ w'.cell? ⟨a6,4,none⟩ = some (.int .i64 t363) ∧ w'.cell? ⟨a6,5,none⟩ = some (.slice ai t364.length ah) ∧ w'.cell? ⟨a9,0,none⟩ = some (.int .i64 t388) ∧ w'.cell? ⟨a9,1,none⟩ = some (.int .i64 t389) ∧ w'.cell? ⟨a9,2,none⟩ = some (.int .i64 t390) ∧ w'.cell? ⟨a9,3,none⟩ = some (.int .i64 t391) ∧ w'.cell? ⟨a9,4,none⟩ = some (.int .i64 t392) ∧ w'.cell? ⟨a9,5,none⟩ = some (.slice al t393.length am) ∧ w'.cell? ⟨a7,0,none⟩ = some (.int .i64 t376) ∧ w'.cell? ⟨a7,1,none⟩ = some (.int .i64 t377) ∧ w'.cell? ⟨a7,2,none⟩ = some (.slice ac t378.length ad)) (ds:=[]) laws_FnKeys.calls.b0 (by kernel_rfl) rfl rfl ⟨(blk_cell a1.out 0).trans rfl,(blk_cell a1.out 1).trans rfl,(blk_cell a1.out 2).trans rfl,(blk_cell a1.out 3).trans rfl,(blk_cell a1.out 4).trans rfl,(blk_cell a1.out 5).trans rfl,(blk_cell a0.out 0).trans rfl,(blk_cell a0.out 1).trans rfl,(blk_cell a0.out 2).trans rfl,(blk_cell a0.out 3).trans rfl,(blk_cell a0.out 4).trans rfl,(blk_cell a0.out 5).trans rfl,(blk_cell a2.out 0).trans rfl,(blk_cell a2.out 1).trans rfl,(blk_cell a2.out 2).trans rfl⟩ (fun hHeld => ?_);refine with_tabW laws_FnKeys.tab15 laws_FnKeys.bits15 (fun HT_ HW_ => ?_)
        generalize wc.drew = w84 at aa a5 a4 a8 a1 a2 a0 HB hHeld ⊢
        refine pure_ (i:=0) (N:=some 108) (v:=?_) (a':=?_) laws_FnKeys.calls.b2 rfl rfl (any_of HT_.out (by kernel_rfl)) (fun _ _ _ h => h) (Or.inl ⟨by rfl,?_⟩) ?_ ?_
        rotate_left
        ·intro w'
         go_simp
         with_reducible rfl
        rotate_left
        ·simp only [Act.put,lA_,lZ_,lS_,i64_w,i32_w]
         rfl
        refine take_ (i:=1) (N:=some 109) (v:=?_) (a':=?_) laws_FnKeys.calls.b6 rfl rfl (take_ofW HT_.out HW_.out (by kernel_rfl)) (fun _ _ _ h => h) (Or.inl ⟨by rfl,?_⟩) hHeld ?_ ?_
        rotate_left
        ·rintro w' ⟨s0,s1,s2,s3,s4,s5,s6,s7,s8,s9,s10,s11,s12,s13,s14⟩
         go_simp
         with_reducible rfl
        rotate_left
        ·simp only [Act.put,lA_,lZ_,lS_,i64_w,i32_w]
         rfl
        refine one_ (i:=2) (N:=some 110) laws_FnKeys.calls.b7 rfl rfl (one_of HT_.out (by kernel_rfl)) (by decide) (fun K hK => ?_)
        refine goes_ Try.func13 (by kernel_rfl) rfl #[.slice ai t364.length ah] (by rfl) rfl rfl (by (try simp only [List.map_toArray,List.map_cons,List.map_nil]);first | done | rfl | (simp only [List.length_drop,List.length_take];rfl)) ?_
        with_reducible refine (impl_TermsFault.calls _ _ t364 t406 _ ?side1 ?side2 bs.out).mono ?_
        (case side1 => exact Rc_ a5)
        (case side2 => exact (Kd.R_reads' a5.out).2.1)
        rintro e w85 ⟨rfl,hb⟩
        refine ⟨_,rfl,?_⟩
        replace aa:=Z_ (Kd.R_below (Rk_ aa) hb)
        replace a5:=Z_ (Kd.R_below (Rk_ a5) hb)
        replace a4:=Z_ (Kd.R_below (Rk_ a4) hb)
        replace a8:=Z_ (Kd.R_below (Rk_ a8) hb)
        replace a1:=Z_ (bB_ (g:=a6) (o:=.cells #[.int .i64 t359,.int .i64 t360,.int .i64 t361,.int .i64 t362,.int .i64 t363,.slice ai t364.length ah] 30 (0,0)) (Bk_ a1) hb)
        replace a2:=Z_ (bB_ (g:=a7) (o:=.cells #[.int .i64 t376,.int .i64 t377,.slice ac t378.length ad] 33 (0,0)) (Bk_ a2) hb)
        replace a0:=Z_ (bB_ (g:=a9) (o:=.cells #[.int .i64 t388,.int .i64 t389,.int .i64 t390,.int .i64 t391,.int .i64 t392,.slice al t393.length am] 30 (0,0)) (Bk_ a0) hb)
        replace HB:=Z_ (lP_ Lb_ hb)
        (try clear hb)
        (try clear hb2)
        (try clear hk)
        (try clear hi)
        refine hK.out _ _ ⟨(blk_cell a1.out 0).trans rfl,(blk_cell a1.out 1).trans rfl,(blk_cell a1.out 2).trans rfl,(blk_cell a1.out 3).trans rfl,(blk_cell a1.out 4).trans rfl,(blk_cell a1.out 5).trans rfl,(blk_cell a0.out 0).trans rfl,(blk_cell a0.out 1).trans rfl,(blk_cell a0.out 2).trans rfl,(blk_cell a0.out 3).trans rfl,(blk_cell a0.out 4).trans rfl,(blk_cell a0.out 5).trans rfl,(blk_cell a2.out 0).trans rfl,(blk_cell a2.out 1).trans rfl,(blk_cell a2.out 2).trans rfl⟩ (fun hHeld => ?_)
        clear hK K
        refine norm_ (a':=?_) ?_ ?_
        rotate_left
        ·show Act.put _ (some 110) _ = _
         simp only [Act.put,lA_,lZ_,lS_,i64_w,i32_w]
         rfl
        refine pure_ (i:=3) (N:=some 111) (v:=?_) (a':=?_) laws_FnKeys.calls.b8 rfl rfl (any_of HT_.out (by kernel_rfl)) (fun _ _ _ h => h) (Or.inl ⟨by rfl,?_⟩) ?_ ?_
        rotate_left
        ·intro w'
         go_simp
         with_reducible rfl
        rotate_left
        ·simp only [Act.put,lA_,lZ_,lS_,i64_w,i32_w]
         rfl
        refine pure_ (i:=4) (N:=some 112) (v:=?_) (a':=?_) laws_FnKeys.calls.b10 rfl rfl (any_of HT_.out (by kernel_rfl)) (fun _ _ _ h => h) (Or.inl ⟨by rfl,?_⟩) ?_ ?_
        rotate_left
        ·intro w'
         go_simp
         with_reducible rfl
        rotate_left
        ·simp only [Act.put,lA_,lZ_,lS_,i64_w,i32_w]
         rfl
        refine pure_ (i:=5) (N:=some 113) (v:=?_) (a':=?_) laws_FnKeys.calls.b12 rfl rfl (any_of HT_.out (by kernel_rfl)) (fun _ _ _ h => h) (Or.inl ⟨by rfl,?_⟩) ?_ ?_
        rotate_left
        ·intro w'
         go_simp
         with_reducible rfl
        rotate_left
        ·simp only [Act.put,lA_,lZ_,lS_,i64_w,i32_w]
         rfl
        refine take_ (i:=6) (N:=some 114) (v:=?_) (a':=?_) laws_FnKeys.calls.b14 rfl rfl (take_ofW HT_.out HW_.out (by kernel_rfl)) (fun _ _ _ h => h) (Or.inl ⟨by rfl,?_⟩) hHeld ?_ ?_
        rotate_left
        ·rintro w' ⟨s0,s1,s2,s3,s4,s5,s6,s7,s8,s9,s10,s11,s12,s13,s14⟩
         go_simp
         with_reducible rfl
        rotate_left
        ·simp only [Act.put,lA_,lZ_,lS_,i64_w,i32_w]
         rfl
        refine pure_ (i:=7) (N:=some 115) (v:=?_) (a':=?_) laws_FnKeys.calls.b16 rfl rfl (any_of HT_.out (by kernel_rfl)) (fun _ _ _ h => h) (Or.inl ⟨by rfl,?_⟩) ?_ ?_
        rotate_left
        ·intro w'
         go_simp
         with_reducible rfl
        rotate_left
        ·simp only [Act.put,lA_,lZ_,lS_,i64_w,i32_w]
         rfl
        refine pure_ (i:=8) (N:=some 116) (v:=?_) (a':=?_) laws_FnKeys.calls.b18 rfl rfl (any_of HT_.out (by kernel_rfl)) (fun _ _ _ h => h) (Or.inl ⟨by rfl,?_⟩) ?_ ?_
        rotate_left
        ·intro w'
         go_simp
         with_reducible rfl
        rotate_left
        ·simp only [Act.put,lA_,lZ_,lS_,i64_w,i32_w]
         rfl
        refine pure_ (i:=9) (N:=some 117) (v:=?_) (a':=?_) laws_FnKeys.calls.b19 rfl rfl (any_of HT_.out (by kernel_rfl)) (fun _ _ _ h => h) (Or.inl ⟨by rfl,?_⟩) ?_ ?_
        rotate_left
        ·intro w'
         go_simp
         with_reducible rfl
        rotate_left
        ·simp only [Act.put,lA_,lZ_,lS_,i64_w,i32_w]
         rfl
        refine pure_ (i:=10) (N:=some 118) (v:=?_) (a':=?_) laws_FnKeys.calls.b20 rfl rfl (any_of HT_.out (by kernel_rfl)) (fun _ _ _ h => h) (Or.inl ⟨by rfl,?_⟩) ?_ ?_
        rotate_left
        ·intro w'
         go_simp
         with_reducible rfl
        rotate_left
        ·simp only [Act.put,lA_,lZ_,lS_,i64_w,i32_w]
         rfl
        refine pure_ (i:=12) (N:=some 120) (v:=?_) (a':=?_) laws_FnKeys.calls.b21 rfl rfl (any_of HT_.out (by kernel_rfl)) (fun _ _ _ h => h) (Or.inl ⟨by rfl,?_⟩) ?_ ?_
        rotate_left
        ·intro w'
         go_simp
         with_reducible rfl
        rotate_left
        ·simp only [Act.put,lA_,lZ_,lS_,i64_w,i32_w]
         rfl
        refine take_ (i:=11) (N:=some 119) (v:=?_) (a':=?_) laws_FnKeys.calls.b22 rfl rfl (take_ofW HT_.out HW_.out (by kernel_rfl)) (fun _ _ _ h => h) (Or.inl ⟨by rfl,?_⟩) hHeld ?_ ?_
        rotate_left
        ·rintro w' ⟨s0,s1,s2,s3,s4,s5,s6,s7,s8,s9,s10,s11,s12,s13,s14⟩
         go_simp
         with_reducible rfl
        rotate_left
        ·simp only [Act.put,lA_,lZ_,lS_,i64_w,i32_w]
         rfl
        refine take_ (i:=13) (N:=some 121) (v:=?_) (a':=?_) laws_FnKeys.calls.b23 rfl rfl (take_ofW HT_.out HW_.out (by kernel_rfl)) (fun _ _ _ h => h) (Or.inl ⟨by rfl,?_⟩) hHeld ?_ ?_
        rotate_left
        ·rintro w' ⟨s0,s1,s2,s3,s4,s5,s6,s7,s8,s9,s10,s11,s12,s13,s14⟩
         go_simp
         with_reducible rfl
        rotate_left
        ·simp only [Act.put,lA_,lZ_,lS_,i64_w,i32_w]
         rfl
        refine pure_ (i:=14) (N:=some 122) (v:=?_) (a':=?_) laws_FnKeys.calls.b25 rfl rfl (any_of HT_.out (by kernel_rfl)) (fun _ _ _ h => h) (Or.inl ⟨by rfl,?_⟩) ?_ ?_
        rotate_left
        ·intro w'
         go_simp
         with_reducible rfl
        rotate_left
        ·simp only [Act.put,lA_,lZ_,lS_,i64_w,i32_w]
         rfl
        refine pure_ (i:=15) (N:=some 123) (v:=?_) (a':=?_) laws_FnKeys.calls.b28 rfl rfl (any_of HT_.out (by kernel_rfl)) (fun _ _ _ h => h) (Or.inl ⟨by rfl,?_⟩) ?_ ?_
        rotate_left
        ·intro w'
         go_simp
         with_reducible rfl
        rotate_left
        ·simp only [Act.put,lA_,lZ_,lS_,i64_w,i32_w]
         rfl
        refine pure_ (i:=16) (N:=some 124) (v:=?_) (a':=?_) laws_FnKeys.calls.b30 rfl rfl (any_of HT_.out (by kernel_rfl)) (fun _ _ _ h => h) (Or.inl ⟨by rfl,?_⟩) ?_ ?_
        rotate_left
        ·intro w'
         go_simp
         with_reducible rfl
        rotate_left
        ·simp only [Act.put,lA_,lZ_,lS_,i64_w,i32_w]
         rfl
        refine pure_ (i:=17) (N:=some 125) (v:=?_) (a':=?_) laws_FnKeys.calls.b32 rfl rfl (any_of HT_.out (by kernel_rfl)) (fun _ _ _ h => h) (Or.inl ⟨by rfl,?_⟩) ?_ ?_
        rotate_left
        ·intro w'
         go_simp
         with_reducible rfl
        rotate_left
        ·simp only [Act.put,lA_,lZ_,lS_,i64_w,i32_w]
         rfl
        refine pure_ (i:=20) (N:=some 128) (v:=?_) (a':=?_) laws_FnKeys.calls.b33 rfl rfl (any_of HT_.out (by kernel_rfl)) (fun _ _ _ h => h) (Or.inl ⟨by rfl,?_⟩) ?_ ?_
        rotate_left
        ·intro w'
         go_simp
         with_reducible rfl
        rotate_left
        ·simp only [Act.put,lA_,lZ_,lS_,i64_w,i32_w]
         rfl
        refine take_ (i:=18) (N:=some 126) (v:=?_) (a':=?_) laws_FnKeys.calls.b35 rfl rfl (take_ofW HT_.out HW_.out (by kernel_rfl)) (fun _ _ _ h => h) (Or.inl ⟨by rfl,?_⟩) hHeld ?_ ?_
        rotate_left
        ·rintro w' ⟨s0,s1,s2,s3,s4,s5,s6,s7,s8,s9,s10,s11,s12,s13,s14⟩
         go_simp
         with_reducible rfl
        rotate_left
        ·simp only [Act.put,lA_,lZ_,lS_,i64_w,i32_w]
         rfl
        refine pure_ (i:=19) (N:=some 127) (v:=?_) (a':=?_) laws_FnKeys.calls.b36 rfl rfl (any_of HT_.out (by kernel_rfl)) (fun _ _ _ h => h) (Or.inl ⟨by rfl,?_⟩) ?_ ?_
        rotate_left
        ·intro w'
         go_simp
         with_reducible rfl
        rotate_left
        ·simp only [Act.put,lA_,lZ_,lS_,i64_w,i32_w]
         rfl
        refine take_ (i:=21) (N:=some 129) (v:=?_) (a':=?_) laws_FnKeys.calls.b37 rfl rfl (take_ofW HT_.out HW_.out (by kernel_rfl)) (fun _ _ _ h => h) (Or.inl ⟨by rfl,?_⟩) hHeld ?_ ?_
        rotate_left
        ·rintro w' ⟨s0,s1,s2,s3,s4,s5,s6,s7,s8,s9,s10,s11,s12,s13,s14⟩
         go_simp
         with_reducible rfl
        rotate_left
        ·simp only [Act.put,lA_,lZ_,lS_,i64_w,i32_w]
         rfl
        refine pure_ (i:=22) (N:=some 130) (v:=?_) (a':=?_) laws_FnKeys.calls.b38 rfl rfl (any_of HT_.out (by kernel_rfl)) (fun _ _ _ h => h) (Or.inl ⟨by rfl,?_⟩) ?_ ?_
        rotate_left
        ·intro w'
         go_simp
         with_reducible rfl
        rotate_left
        ·simp only [Act.put,lA_,lZ_,lS_,i64_w,i32_w]
         rfl
        refine pure_ (i:=23) (N:=some 131) (v:=?_) (a':=?_) laws_FnKeys.calls.b39 rfl rfl (any_of HT_.out (by kernel_rfl)) (fun _ _ _ h => h) (Or.inl ⟨by rfl,?_⟩) ?_ ?_
        rotate_left
        ·intro w'
         go_simp
         with_reducible rfl
        rotate_left
        ·simp only [Act.put,lA_,lZ_,lS_,i64_w,i32_w]
         rfl
        refine pure_ (i:=24) (N:=some 132) (v:=?_) (a':=?_) laws_FnKeys.calls.b40 rfl rfl (any_of HT_.out (by kernel_rfl)) (fun _ _ _ h => h) (Or.inl ⟨by rfl,?_⟩) ?_ ?_
        rotate_left
        ·intro w'
         go_simp
         with_reducible rfl
        rotate_left
        ·simp only [Act.put,lA_,lZ_,lS_,i64_w,i32_w]
         rfl
        refine pure_ (i:=25) (N:=some 133) (v:=?_) (a':=?_) laws_FnKeys.calls.b41 rfl rfl (any_of HT_.out (by kernel_rfl)) (fun _ _ _ h => h) (Or.inl ⟨by rfl,?_⟩) ?_ ?_
        rotate_left
        ·intro w'
         go_simp
         with_reducible rfl
        rotate_left
        ·simp only [Act.put,lA_,lZ_,lS_,i64_w,i32_w]
         rfl
        refine pure_ (i:=26) (N:=some 134) (v:=?_) (a':=?_) laws_FnKeys.calls.b42 rfl rfl (any_of HT_.out (by kernel_rfl)) (fun _ _ _ h => h) (Or.inl ⟨by rfl,?_⟩) ?_ ?_
        rotate_left
        ·intro w'
         go_simp
         with_reducible rfl
        rotate_left
        ·simp only [Act.put,lA_,lZ_,lS_,i64_w,i32_w]
         rfl
        refine pure_ (i:=27) (N:=some 135) (v:=?_) (a':=?_) laws_FnKeys.calls.b43 rfl rfl (any_of HT_.out (by kernel_rfl)) (fun _ _ _ h => h) (Or.inl ⟨by rfl,?_⟩) ?_ ?_
        rotate_left
        ·intro w'
         go_simp
         with_reducible rfl
        rotate_left
        ·simp only [Act.put,lA_,lZ_,lS_,i64_w,i32_w]
         rfl
        refine pure_ (i:=29) (N:=some 137) (v:=?_) (a':=?_) laws_FnKeys.calls.b44 rfl rfl (any_of HT_.out (by kernel_rfl)) (fun _ _ _ h => h) (Or.inl ⟨by rfl,?_⟩) ?_ ?_
        rotate_left
        ·intro w'
         go_simp
         with_reducible rfl
        rotate_left
        ·simp only [Act.put,lA_,lZ_,lS_,i64_w,i32_w]
         rfl
        refine pure_ (i:=30) (N:=some 138) (v:=?_) (a':=?_) laws_FnKeys.calls.b45 rfl rfl (any_of HT_.out (by kernel_rfl)) (fun _ _ _ h => h) (Or.inl ⟨by rfl,?_⟩) ?_ ?_
        rotate_left
        ·intro w'
         go_simp
         with_reducible rfl
        rotate_left
        ·simp only [Act.put,lA_,lZ_,lS_,i64_w,i32_w]
         rfl
        refine take_ (i:=28) (N:=some 136) (v:=?_) (a':=?_) laws_FnKeys.calls.b46 rfl rfl (take_ofW HT_.out HW_.out (by kernel_rfl)) (fun _ _ _ h => h) (Or.inl ⟨by rfl,?_⟩) hHeld ?_ ?_
        rotate_left
        ·rintro w' ⟨s0,s1,s2,s3,s4,s5,s6,s7,s8,s9,s10,s11,s12,s13,s14⟩
         go_simp
         with_reducible rfl
        rotate_left
        ·simp only [Act.put,lA_,lZ_,lS_,i64_w,i32_w]
         rfl
        refine take_ (i:=31) (N:=some 139) (v:=?_) (a':=?_) laws_FnKeys.calls.b47 rfl rfl (take_ofW HT_.out HW_.out (by kernel_rfl)) (fun _ _ _ h => h) (Or.inl ⟨by rfl,?_⟩) hHeld ?_ ?_
        rotate_left
        ·rintro w' ⟨s0,s1,s2,s3,s4,s5,s6,s7,s8,s9,s10,s11,s12,s13,s14⟩
         go_simp
         with_reducible rfl
        rotate_left
        ·simp only [Act.put,lA_,lZ_,lS_,i64_w,i32_w]
         rfl
        refine pure_ (i:=32) (N:=some 140) (v:=?_) (a':=?_) laws_FnKeys.calls.b48 rfl rfl (any_of HT_.out (by kernel_rfl)) (fun _ _ _ h => h) (Or.inl ⟨by rfl,?_⟩) ?_ ?_
        rotate_left
        ·intro w'
         go_simp
         with_reducible rfl
        rotate_left
        ·simp only [Act.put,lA_,lZ_,lS_,i64_w,i32_w]
         rfl
        refine pure_ (i:=33) (N:=some 141) (v:=?_) (a':=?_) laws_FnKeys.calls.b49 rfl rfl (any_of HT_.out (by kernel_rfl)) (fun _ _ _ h => h) (Or.inl ⟨by rfl,?_⟩) ?_ ?_
        rotate_left
        ·intro w'
         go_simp
         with_reducible rfl
        rotate_left
        ·simp only [Act.put,lA_,lZ_,lS_,i64_w,i32_w]
         rfl
        refine pure_ (i:=34) (N:=some 142) (v:=?_) (a':=?_) laws_FnKeys.calls.b50 rfl rfl (any_of HT_.out (by kernel_rfl)) (fun _ _ _ h => h) (Or.inl ⟨by rfl,?_⟩) ?_ ?_
        rotate_left
        ·intro w'
         go_simp
         with_reducible rfl
        rotate_left
        ·simp only [Act.put,lA_,lZ_,lS_,i64_w,i32_w]
         rfl
        refine pure_ (i:=35) (N:=some 143) (v:=?_) (a':=?_) laws_FnKeys.calls.b51 rfl rfl (any_of HT_.out (by kernel_rfl)) (fun _ _ _ h => h) (Or.inl ⟨by rfl,?_⟩) ?_ ?_
        rotate_left
        ·intro w'
         go_simp
         with_reducible rfl
        rotate_left
        ·simp only [Act.put,lA_,lZ_,lS_,i64_w,i32_w]
         rfl
        refine pure_ (i:=36) (N:=some 144) (v:=?_) (a':=?_) laws_FnKeys.calls.b52 rfl rfl (any_of HT_.out (by kernel_rfl)) (fun _ _ _ h => h) (Or.inl ⟨by rfl,?_⟩) ?_ ?_
        rotate_left
        ·intro w'
         go_simp
         with_reducible rfl
        rotate_left
        ·simp only [Act.put,lA_,lZ_,lS_,i64_w,i32_w]
         rfl
        refine pure_ (i:=38) (N:=some 146) (v:=?_) (a':=?_) laws_FnKeys.calls.b53 rfl rfl (any_of HT_.out (by kernel_rfl)) (fun _ _ _ h => h) (Or.inl ⟨by rfl,?_⟩) ?_ ?_
        rotate_left
        ·intro w'
         go_simp
         with_reducible rfl
        rotate_left
        ·simp only [Act.put,lA_,lZ_,lS_,i64_w,i32_w]
         rfl
        refine pure_ (i:=39) (N:=some 147) (v:=?_) (a':=?_) laws_FnKeys.calls.b54 rfl rfl (any_of HT_.out (by kernel_rfl)) (fun _ _ _ h => h) (Or.inl ⟨by rfl,?_⟩) ?_ ?_
        rotate_left
        ·intro w'
         go_simp
         with_reducible rfl
        rotate_left
        ·simp only [Act.put,lA_,lZ_,lS_,i64_w,i32_w]
         rfl
        refine take_ (i:=37) (N:=some 145) (v:=?_) (a':=?_) laws_FnKeys.calls.b55 rfl rfl (take_ofW HT_.out HW_.out (by kernel_rfl)) (fun _ _ _ h => h) (Or.inl ⟨by rfl,?_⟩) hHeld ?_ ?_
        rotate_left
        ·rintro w' ⟨s0,s1,s2,s3,s4,s5,s6,s7,s8,s9,s10,s11,s12,s13,s14⟩
         go_simp
         with_reducible rfl
        rotate_left
        ·simp only [Act.put,lA_,lZ_,lS_,i64_w,i32_w]
         rfl
        refine take_ (i:=40) (N:=some 148) (v:=?_) (a':=?_) laws_FnKeys.calls.b56 rfl rfl (take_ofW HT_.out HW_.out (by kernel_rfl)) (fun _ _ _ h => h) (Or.inl ⟨by rfl,?_⟩) hHeld ?_ ?_
        rotate_left
        ·rintro w' ⟨s0,s1,s2,s3,s4,s5,s6,s7,s8,s9,s10,s11,s12,s13,s14⟩
         go_simp
         with_reducible rfl
        rotate_left
        ·simp only [Act.put,lA_,lZ_,lS_,i64_w,i32_w]
         rfl
        refine pure_ (i:=41) (N:=some 149) (v:=?_) (a':=?_) laws_FnKeys.calls.b57 rfl rfl (any_of HT_.out (by kernel_rfl)) (fun _ _ _ h => h) (Or.inl ⟨by rfl,?_⟩) ?_ ?_
        rotate_left
        ·intro w'
         go_simp
         with_reducible rfl
        rotate_left
        ·simp only [Act.put,lA_,lZ_,lS_,i64_w,i32_w]
         rfl
        refine pure_ (i:=42) (N:=some 150) (v:=?_) (a':=?_) laws_FnKeys.calls.b58 rfl rfl (any_of HT_.out (by kernel_rfl)) (fun _ _ _ h => h) (Or.inl ⟨by rfl,?_⟩) ?_ ?_
        rotate_left
        ·intro w'
         go_simp
         with_reducible rfl
        rotate_left
        ·simp only [Act.put,lA_,lZ_,lS_,i64_w,i32_w]
         rfl
        refine pure_ (i:=43) (N:=some 151) (v:=?_) (a':=?_) laws_FnKeys.calls.b59 rfl rfl (any_of HT_.out (by kernel_rfl)) (fun _ _ _ h => h) (Or.inl ⟨by rfl,?_⟩) ?_ ?_
        rotate_left
        ·intro w'
         go_simp
         with_reducible rfl
        rotate_left
        ·simp only [Act.put,lA_,lZ_,lS_,i64_w,i32_w]
         rfl
        refine pure_ (i:=44) (N:=some 152) (v:=?_) (a':=?_) laws_FnKeys.calls.b60 rfl rfl (any_of HT_.out (by kernel_rfl)) (fun _ _ _ h => h) (Or.inl ⟨by rfl,?_⟩) ?_ ?_
        rotate_left
        ·intro w'
         go_simp
         with_reducible rfl
        rotate_left
        ·simp only [Act.put,lA_,lZ_,lS_,i64_w,i32_w]
         rfl
        refine pure_ (i:=45) (N:=some 153) (v:=?_) (a':=?_) laws_FnKeys.calls.b61 rfl rfl (any_of HT_.out (by kernel_rfl)) (fun _ _ _ h => h) (Or.inl ⟨by rfl,?_⟩) ?_ ?_
        rotate_left
        ·intro w'
         go_simp
         with_reducible rfl
        rotate_left
        ·simp only [Act.put,lA_,lZ_,lS_,i64_w,i32_w]
         rfl
        refine pure_ (i:=46) (N:=some 154) (v:=?_) (a':=?_) laws_FnKeys.calls.b62 rfl rfl (any_of HT_.out (by kernel_rfl)) (fun _ _ _ h => h) (Or.inl ⟨by rfl,?_⟩) ?_ ?_
        rotate_left
        ·intro w'
         go_simp
         with_reducible rfl
        rotate_left
        ·simp only [Act.put,lA_,lZ_,lS_,i64_w,i32_w]
         rfl
        refine pure_ (i:=47) (N:=some 155) (v:=undef) (a':=?_) laws_FnKeys.calls.b63 rfl rfl (any_of HT_.out (by kernel_rfl)) (fun _ _ _ h => h) (Or.inr ⟨by rfl,rfl⟩) ?_ ?_
        rotate_left
        ·simp only [Act.put,lA_,lZ_,lS_,i64_w,i32_w]
         rfl
        refine pure_ (i:=48) (N:=some 156) (v:=undef) (a':=?_) (Bt 77 562949953421311) rfl rfl (any_of HT_.out (by kernel_rfl)) (fun _ _ _ h => h) (Or.inr ⟨by rfl,rfl⟩) ?_ ?_
        rotate_left
        ·simp only [Act.put,lA_,lZ_,lS_,i64_w,i32_w]
         rfl
        refine pure_ (i:=49) (N:=some 157) (v:=undef) (a':=?_) (Bt 77 1125899906842623) rfl rfl (any_of HT_.out (by kernel_rfl)) (fun _ _ _ h => h) (Or.inr ⟨by rfl,rfl⟩) ?_ ?_
        rotate_left
        ·simp only [Act.put,lA_,lZ_,lS_,i64_w,i32_w]
         rfl
        refine pure_ (i:=50) (N:=some 158) (v:=undef) (a':=?_) (Bt 77 2251799813685247) rfl rfl (any_of HT_.out (by kernel_rfl)) (fun _ _ _ h => h) (Or.inr ⟨by rfl,rfl⟩) ?_ ?_
        rotate_left
        ·simp only [Act.put,lA_,lZ_,lS_,i64_w,i32_w]
         rfl
        refine pure_ (i:=51) (N:=some 159) (v:=undef) (a':=?_) laws_FnKeys.calls.b67 rfl rfl (any_of HT_.out (by kernel_rfl)) (fun _ _ _ h => h) (Or.inr ⟨by rfl,rfl⟩) ?_ ?_
        rotate_left
        ·simp only [Act.put,lA_,lZ_,lS_,i64_w,i32_w]
         rfl
        refine pure_ (i:=52) (N:=some 160) (v:=undef) (a':=?_) laws_FnKeys.calls.b68 rfl rfl (any_of HT_.out (by kernel_rfl)) (fun _ _ _ h => h) (Or.inr ⟨by rfl,rfl⟩) ?_ ?_
        rotate_left
        ·simp only [Act.put,lA_,lZ_,lS_,i64_w,i32_w]
         rfl
        refine pure_ (i:=53) (N:=some 161) (v:=undef) (a':=?_) laws_FnKeys.calls.b69 rfl rfl (any_of HT_.out (by kernel_rfl)) (fun _ _ _ h => h) (Or.inr ⟨by rfl,rfl⟩) ?_ ?_
        rotate_left
        ·simp only [Act.put,lA_,lZ_,lS_,i64_w,i32_w]
         rfl
        refine pure_ (i:=54) (N:=some 162) (v:=?_) (a':=?_) laws_FnKeys.calls.b70 rfl rfl (any_of HT_.out (by kernel_rfl)) (fun _ _ _ h => h) (Or.inl ⟨by rfl,?_⟩) ?_ ?_
        rotate_left
        ·intro w'
         go_simp
         with_reducible rfl
        rotate_left
        ·simp only [Act.put,lA_,lZ_,lS_,i64_w,i32_w]
         rfl
        refine pure_ (i:=55) (N:=some 163) (v:=?_) (a':=?_) laws_FnKeys.calls.b71 rfl rfl (any_of HT_.out (by kernel_rfl)) (fun _ _ _ h => h) (Or.inl ⟨by rfl,?_⟩) ?_ ?_
        rotate_left
        ·intro w'
         go_simp
         with_reducible rfl
        rotate_left
        ·simp only [Act.put,lA_,lZ_,lS_,i64_w,i32_w]
         rfl
        refine pure_ (i:=56) (N:=some 164) (v:=undef) (a':=?_) laws_FnKeys.calls.b72 rfl rfl (any_of HT_.out (by kernel_rfl)) (fun _ _ _ h => h) (Or.inr ⟨by rfl,rfl⟩) ?_ ?_
        rotate_left
        ·simp only [Act.put,lA_,lZ_,lS_,i64_w,i32_w]
         rfl
        refine pure_ (i:=57) (N:=some 165) (v:=undef) (a':=?_) laws_FnKeys.calls.b76 rfl rfl (any_of HT_.out (by kernel_rfl)) (fun _ _ _ h => h) (Or.inr ⟨by rfl,rfl⟩) ?_ ?_
        rotate_left
        ·simp only [Act.put,lA_,lZ_,lS_,i64_w,i32_w]
         rfl
        refine pure_ (i:=58) (N:=some 166) (v:=undef) (a':=?_) laws_FnKeys.calls.b77 rfl rfl (any_of HT_.out (by kernel_rfl)) (fun _ _ _ h => h) (Or.inr ⟨by rfl,rfl⟩) ?_ ?_
        rotate_left
        ·simp only [Act.put,lA_,lZ_,lS_,i64_w,i32_w]
         rfl
        refine pure_ (i:=59) (N:=some 167) (v:=undef) (a':=?_) laws_FnKeys.calls.b78 rfl rfl (any_of HT_.out (by kernel_rfl)) (fun _ _ _ h => h) (Or.inr ⟨by rfl,rfl⟩) ?_ ?_
        rotate_left
        ·simp only [Act.put,lA_,lZ_,lS_,i64_w,i32_w]
         rfl
        refine pure_ (i:=60) (N:=some 168) (v:=undef) (a':=?_) laws_FnKeys.calls.b79 rfl rfl (any_of HT_.out (by kernel_rfl)) (fun _ _ _ h => h) (Or.inr ⟨by rfl,rfl⟩) ?_ ?_
        rotate_left
        ·simp only [Act.put,lA_,lZ_,lS_,i64_w,i32_w]
         rfl
        refine pure_ (i:=61) (N:=some 169) (v:=undef) (a':=?_) laws_FnKeys.calls.b80 rfl rfl (any_of HT_.out (by kernel_rfl)) (fun _ _ _ h => h) (Or.inr ⟨by rfl,rfl⟩) ?_ ?_
        rotate_left
        ·simp only [Act.put,lA_,lZ_,lS_,i64_w,i32_w]
         rfl
        refine pure_ (i:=62) (N:=some 170) (v:=undef) (a':=?_) laws_FnKeys.calls.b81 rfl rfl (any_of HT_.out (by kernel_rfl)) (fun _ _ _ h => h) (Or.inr ⟨by rfl,rfl⟩) ?_ ?_
        rotate_left
        ·simp only [Act.put,lA_,lZ_,lS_,i64_w,i32_w]
         rfl
        refine pure_ (i:=63) (N:=some 171) (v:=?_) (a':=?_) laws_FnKeys.calls.b82 rfl rfl (any_of HT_.out (by kernel_rfl)) (fun _ _ _ h => h) (Or.inl ⟨by rfl,?_⟩) ?_ ?_
        rotate_left
        ·intro w'
         go_simp
         with_reducible rfl
        rotate_left
        ·simp only [Act.put,lA_,lZ_,lS_,i64_w,i32_w]
         rfl
        refine pure_ (i:=64) (N:=some 172) (v:=?_) (a':=?_) laws_FnKeys.calls.b83 rfl rfl (any_of HT_.out (by kernel_rfl)) (fun _ _ _ h => h) (Or.inl ⟨by rfl,?_⟩) ?_ ?_
        rotate_left
        ·intro w'
         go_simp
         with_reducible rfl
        rotate_left
        ·simp only [Act.put,lA_,lZ_,lS_,i64_w,i32_w]
         rfl
        refine pure_ (i:=65) (N:=some 173) (v:=undef) (a':=?_) laws_FnKeys.calls.b84 rfl rfl (any_of HT_.out (by kernel_rfl)) (fun _ _ _ h => h) (Or.inr ⟨by rfl,rfl⟩) ?_ ?_
        rotate_left
        ·simp only [Act.put,lA_,lZ_,lS_,i64_w,i32_w]
         rfl
        refine pure_ (i:=66) (N:=some 174) (v:=undef) (a':=?_) laws_FnKeys.calls.b85 rfl rfl (any_of HT_.out (by kernel_rfl)) (fun _ _ _ h => h) (Or.inr ⟨by rfl,rfl⟩) ?_ ?_
        rotate_left
        ·simp only [Act.put,lA_,lZ_,lS_,i64_w,i32_w]
         rfl
        refine pure_ (i:=67) (N:=some 175) (v:=undef) (a':=?_) laws_FnKeys.calls.b86 rfl rfl (any_of HT_.out (by kernel_rfl)) (fun _ _ _ h => h) (Or.inr ⟨by rfl,rfl⟩) ?_ ?_
        rotate_left
        ·simp only [Act.put,lA_,lZ_,lS_,i64_w,i32_w]
         rfl
        refine pure_ (i:=68) (N:=some 176) (v:=undef) (a':=?_) laws_FnKeys.calls.b87 rfl rfl (any_of HT_.out (by kernel_rfl)) (fun _ _ _ h => h) (Or.inr ⟨by rfl,rfl⟩) ?_ ?_
        rotate_left
        ·simp only [Act.put,lA_,lZ_,lS_,i64_w,i32_w]
         rfl
        refine pure_ (i:=69) (N:=some 177) (v:=undef) (a':=?_) laws_FnKeys.calls.b88 rfl rfl (any_of HT_.out (by kernel_rfl)) (fun _ _ _ h => h) (Or.inr ⟨by rfl,rfl⟩) ?_ ?_
        rotate_left
        ·simp only [Act.put,lA_,lZ_,lS_,i64_w,i32_w]
         rfl
        refine pure_ (i:=70) (N:=some 178) (v:=undef) (a':=?_) laws_FnKeys.calls.b89 rfl rfl (any_of HT_.out (by kernel_rfl)) (fun _ _ _ h => h) (Or.inr ⟨by rfl,rfl⟩) ?_ ?_
        rotate_left
        ·simp only [Act.put,lA_,lZ_,lS_,i64_w,i32_w]
         rfl
        refine pure_ (i:=71) (N:=some 179) (v:=undef) (a':=?_) laws_FnKeys.calls.b90 rfl rfl (any_of HT_.out (by kernel_rfl)) (fun _ _ _ h => h) (Or.inr ⟨by rfl,rfl⟩) ?_ ?_
        rotate_left
        ·simp only [Act.put,lA_,lZ_,lS_,i64_w,i32_w]
         rfl
        refine pure_ (i:=72) (N:=some 180) (v:=undef) (a':=?_) laws_FnKeys.calls.b91 rfl rfl (any_of HT_.out (by kernel_rfl)) (fun _ _ _ h => h) (Or.inr ⟨by rfl,rfl⟩) ?_ ?_
        rotate_left
        ·simp only [Act.put,lA_,lZ_,lS_,i64_w,i32_w]
         rfl
        refine pure_ (i:=73) (N:=some 181) (v:=undef) (a':=?_) laws_FnKeys.calls.b92 rfl rfl (any_of HT_.out (by kernel_rfl)) (fun _ _ _ h => h) (Or.inr ⟨by rfl,rfl⟩) ?_ ?_
        rotate_left
        ·simp only [Act.put,lA_,lZ_,lS_,i64_w,i32_w]
         rfl
        refine pure_ (i:=74) (N:=some 182) (v:=?_) (a':=?_) laws_FnKeys.calls.b93 rfl rfl (any_of HT_.out (by kernel_rfl)) (fun _ _ _ h => h) (Or.inl ⟨by rfl,?_⟩) ?_ ?_
        rotate_left
        ·intro w'
         go_simp
         with_reducible rfl
        rotate_left
        ·simp only [Act.put,lA_,lZ_,lS_,i64_w,i32_w]
         rfl
        refine pure_ (i:=75) (N:=some 183) (v:=?_) (a':=?_) laws_FnKeys.calls.b94 rfl rfl (any_of HT_.out (by kernel_rfl)) (fun _ _ _ h => h) (Or.inl ⟨by rfl,?_⟩) ?_ ?_
        rotate_left
        ·intro w'
         go_simp
         with_reducible rfl
        rotate_left
        ·simp only [Act.put,lA_,lZ_,lS_,i64_w,i32_w]
         rfl
        refine pure_ (i:=76) (N:=some 2) (v:=?_) (a':=?_) laws_FnKeys.calls.b95 rfl rfl (any_of HT_.out (by kernel_rfl)) (fun _ _ _ h => h) (Or.inl ⟨by rfl,?_⟩) ?_ ?_
        rotate_left
        ·intro w'
         go_simp
         with_reducible rfl
        rotate_left
        ·simp only [Act.put,lA_,lZ_,lS_,i64_w,i32_w]
         rfl
        refine done_ (done_of HT_.out (by kernel_rfl)) ?_
        try go_wp2
        go_ret
        exact ⟨by first | rfl | (rw [hr_.out];first | done | rfl) | (simp [errW_none,errW_some] <;> rfl) | (simp [*,errW_none,errW_some] <;> rfl),Lb_⟩
      rotate_right
      ·replace H:=bS_ H
       obtain ⟨t407,cb,H⟩:=H
       replace H:=iB_ H
       obtain ⟨rfl,H⟩ | ⟨rfl,H⟩:=H
       ·as_aux_lemma =>
         clear H
         try go_wp2
         replace aa:=Z_ (rD_ aa.out)
         replace a5:=Z_ (rD_ a5.out)
         replace a4:=Z_ (rD_ a4.out)
         replace a8:=Z_ (rD_ a8.out)
         replace a1:=Z_ (bD_ a1.out)
         replace a2:=Z_ (bD_ a2.out)
         replace a0:=Z_ (bD_ a0.out)
         replace HB:=Z_ (lD_ HB.out)
         refine start_ (n:=77) (S:=fun w' => w'.cell? ⟨a6,0,none⟩ = some (.int .i64 t359) ∧ w'.cell? ⟨a6,1,none⟩ = some (.int .i64 t360) ∧ w'.cell? ⟨a6,2,none⟩ = some (.int .i64 t361) ∧ w'.cell? ⟨a6,3,none⟩ = some (.int .i64 t362) ∧ w'.cell? ⟨a6,4,none⟩ = some (.int .i64 t363) ∧ w'.cell? ⟨a6,5,none⟩ = some (.slice ai t364.length ah) ∧ w'.cell? ⟨a9,0,none⟩ = some (.int .i64 t388) ∧ w'.cell? ⟨a9,1,none⟩ = some (.int .i64 t389) ∧ w'.cell? ⟨a9,2,none⟩ = some (.int .i64 t390) ∧ w'.cell? ⟨a9,3,none⟩ = some (.int .i64 t391) ∧ w'.cell? ⟨a9,4,none⟩ = some (.int .i64 t392) ∧ w'.cell? ⟨a9,5,none⟩ = some (.slice al t393.length am) ∧ w'.cell? ⟨a7,0,none⟩ = some (.int .i64 t376) ∧ w'.cell? ⟨a7,1,none⟩ = some (.int .i64 t377) ∧ w'.cell? ⟨a7,2,none⟩ = some (.slice ac t378.length ad)) (ds:=[]) laws_FnKeys.calls.b0 (by kernel_rfl) rfl rfl ⟨(blk_cell a1.out 0).trans rfl,(blk_cell a1.out 1).trans rfl,(blk_cell a1.out 2).trans rfl,(blk_cell a1.out 3).trans rfl,(blk_cell a1.out 4).trans rfl,(blk_cell a1.out 5).trans rfl,(blk_cell a0.out 0).trans rfl,(blk_cell a0.out 1).trans rfl,(blk_cell a0.out 2).trans rfl,(blk_cell a0.out 3).trans rfl,(blk_cell a0.out 4).trans rfl,(blk_cell a0.out 5).trans rfl,(blk_cell a2.out 0).trans rfl,(blk_cell a2.out 1).trans rfl,(blk_cell a2.out 2).trans rfl⟩ (fun hHeld => ?_);refine with_tabW laws_FnKeys.tab15 laws_FnKeys.bits15 (fun HT_ HW_ => ?_)
         generalize wc.drew = w64 at aa a5 a4 a8 a1 a2 a0 HB hHeld ⊢
         refine pure_ (i:=0) (N:=some 108) (v:=?_) (a':=?_) laws_FnKeys.calls.b2 rfl rfl (any_of HT_.out (by kernel_rfl)) (fun _ _ _ h => h) (Or.inl ⟨by rfl,?_⟩) ?_ ?_
         rotate_left
         ·intro w'
          go_simp
          with_reducible rfl
         rotate_left
         ·simp only [Act.put,lA_,lZ_,lS_,i64_w,i32_w]
          rfl
         refine take_ (i:=1) (N:=some 109) (v:=?_) (a':=?_) laws_FnKeys.calls.b6 rfl rfl (take_ofW HT_.out HW_.out (by kernel_rfl)) (fun _ _ _ h => h) (Or.inl ⟨by rfl,?_⟩) hHeld ?_ ?_
         rotate_left
         ·rintro w' ⟨s0,s1,s2,s3,s4,s5,s6,s7,s8,s9,s10,s11,s12,s13,s14⟩
          go_simp
          with_reducible rfl
         rotate_left
         ·simp only [Act.put,lA_,lZ_,lS_,i64_w,i32_w]
          rfl
         refine one_ (i:=2) (N:=some 110) laws_FnKeys.calls.b7 rfl rfl (one_of HT_.out (by kernel_rfl)) (by decide) (fun K hK => ?_)
         refine goes_ Try.func13 (by kernel_rfl) rfl #[.slice ai t364.length ah] (by rfl) rfl rfl (by (try simp only [List.map_toArray,List.map_cons,List.map_nil]);first | done | rfl | (simp only [List.length_drop,List.length_take];rfl)) ?_
         with_reducible refine (impl_TermsFault.calls _ _ t364 t406 _ ?side1 ?side2 bs.out).mono ?_
         (case side1 => exact Rc_ a5)
         (case side2 => exact (Kd.R_reads' a5.out).2.1)
         rintro e w65 ⟨rfl,hb⟩
         refine ⟨_,rfl,?_⟩
         replace aa:=Z_ (Kd.R_below (Rk_ aa) hb)
         replace a5:=Z_ (Kd.R_below (Rk_ a5) hb)
         replace a4:=Z_ (Kd.R_below (Rk_ a4) hb)
         replace a8:=Z_ (Kd.R_below (Rk_ a8) hb)
         replace a1:=Z_ (bB_ (g:=a6) (o:=.cells #[.int .i64 t359,.int .i64 t360,.int .i64 t361,.int .i64 t362,.int .i64 t363,.slice ai t364.length ah] 30 (0,0)) (Bk_ a1) hb)
         replace a2:=Z_ (bB_ (g:=a7) (o:=.cells #[.int .i64 t376,.int .i64 t377,.slice ac t378.length ad] 33 (0,0)) (Bk_ a2) hb)
         replace a0:=Z_ (bB_ (g:=a9) (o:=.cells #[.int .i64 t388,.int .i64 t389,.int .i64 t390,.int .i64 t391,.int .i64 t392,.slice al t393.length am] 30 (0,0)) (Bk_ a0) hb)
         replace HB:=Z_ (lP_ Lb_ hb)
         (try clear hb)
         (try clear hb2)
         (try clear hk)
         (try clear hi)
         obtain ⟨cv,cw,eo66⟩:=Kd.R_slice aa.out
         (first | subst eo66 | (injection eo66 with f1_ f2_ f3_;have f4_:=f1_.symm;have f5_:=f3_.symm;clear f1_ f2_ f3_;subst f4_;subst f5_))
         refine hK.out _ _ ⟨(blk_cell a1.out 0).trans rfl,(blk_cell a1.out 1).trans rfl,(blk_cell a1.out 2).trans rfl,(blk_cell a1.out 3).trans rfl,(blk_cell a1.out 4).trans rfl,(blk_cell a1.out 5).trans rfl,(blk_cell a0.out 0).trans rfl,(blk_cell a0.out 1).trans rfl,(blk_cell a0.out 2).trans rfl,(blk_cell a0.out 3).trans rfl,(blk_cell a0.out 4).trans rfl,(blk_cell a0.out 5).trans rfl,(blk_cell a2.out 0).trans rfl,(blk_cell a2.out 1).trans rfl,(blk_cell a2.out 2).trans rfl⟩ (fun hHeld => ?_)
         clear hK K
         refine norm_ (a':=?_) ?_ ?_
         rotate_left
         ·show Act.put _ (some 110) _ = _
          simp only [Act.put,lA_,lZ_,lS_,i64_w,i32_w]
          rfl
         refine pure_ (i:=3) (N:=some 111) (v:=?_) (a':=?_) laws_FnKeys.calls.b8 rfl rfl (any_of HT_.out (by kernel_rfl)) (fun _ _ _ h => h) (Or.inl ⟨by rfl,?_⟩) ?_ ?_
         rotate_left
         ·intro w'
          go_simp
          with_reducible rfl
         rotate_left
         ·simp only [Act.put,lA_,lZ_,lS_,i64_w,i32_w]
          rfl
         refine pure_ (i:=4) (N:=some 112) (v:=?_) (a':=?_) laws_FnKeys.calls.b10 rfl rfl (any_of HT_.out (by kernel_rfl)) (fun _ _ _ h => h) (Or.inl ⟨by rfl,?_⟩) ?_ ?_
         rotate_left
         ·intro w'
          go_simp
          with_reducible rfl
         rotate_left
         ·simp only [Act.put,lA_,lZ_,lS_,i64_w,i32_w]
          rfl
         refine pure_ (i:=5) (N:=some 113) (v:=?_) (a':=?_) laws_FnKeys.calls.b12 rfl rfl (any_of HT_.out (by kernel_rfl)) (fun _ _ _ h => h) (Or.inl ⟨by rfl,?_⟩) ?_ ?_
         rotate_left
         ·intro w'
          go_simp
          with_reducible rfl
         rotate_left
         ·simp only [Act.put,lA_,lZ_,lS_,i64_w,i32_w]
          rfl
         refine take_ (i:=6) (N:=some 114) (v:=?_) (a':=?_) laws_FnKeys.calls.b14 rfl rfl (take_ofW HT_.out HW_.out (by kernel_rfl)) (fun _ _ _ h => h) (Or.inl ⟨by rfl,?_⟩) hHeld ?_ ?_
         rotate_left
         ·rintro w' ⟨s0,s1,s2,s3,s4,s5,s6,s7,s8,s9,s10,s11,s12,s13,s14⟩
          go_simp
          with_reducible rfl
         rotate_left
         ·simp only [Act.put,lA_,lZ_,lS_,i64_w,i32_w]
          rfl
         refine pure_ (i:=7) (N:=some 115) (v:=?_) (a':=?_) laws_FnKeys.calls.b16 rfl rfl (any_of HT_.out (by kernel_rfl)) (fun _ _ _ h => h) (Or.inl ⟨by rfl,?_⟩) ?_ ?_
         rotate_left
         ·intro w'
          go_simp
          with_reducible rfl
         rotate_left
         ·simp only [Act.put,lA_,lZ_,lS_,i64_w,i32_w]
          rfl
         refine pure_ (i:=8) (N:=some 116) (v:=?_) (a':=?_) laws_FnKeys.calls.b18 rfl rfl (any_of HT_.out (by kernel_rfl)) (fun _ _ _ h => h) (Or.inl ⟨by rfl,?_⟩) ?_ ?_
         rotate_left
         ·intro w'
          go_simp
          with_reducible rfl
         rotate_left
         ·simp only [Act.put,lA_,lZ_,lS_,i64_w,i32_w]
          rfl
         refine pure_ (i:=9) (N:=some 117) (v:=?_) (a':=?_) laws_FnKeys.calls.b19 rfl rfl (any_of HT_.out (by kernel_rfl)) (fun _ _ _ h => h) (Or.inl ⟨by rfl,?_⟩) ?_ ?_
         rotate_left
         ·intro w'
          go_simp
          with_reducible rfl
         rotate_left
         ·simp only [Act.put,lA_,lZ_,lS_,i64_w,i32_w]
          rfl
         refine pure_ (i:=10) (N:=some 118) (v:=?_) (a':=?_) laws_FnKeys.calls.b20 rfl rfl (any_of HT_.out (by kernel_rfl)) (fun _ _ _ h => h) (Or.inl ⟨by rfl,?_⟩) ?_ ?_
         rotate_left
         ·intro w'
          go_simp
          with_reducible rfl
         rotate_left
         ·simp only [Act.put,lA_,lZ_,lS_,i64_w,i32_w]
          rfl
         refine pure_ (i:=12) (N:=some 120) (v:=?_) (a':=?_) laws_FnKeys.calls.b21 rfl rfl (any_of HT_.out (by kernel_rfl)) (fun _ _ _ h => h) (Or.inl ⟨by rfl,?_⟩) ?_ ?_
         rotate_left
         ·intro w'
          go_simp
          with_reducible rfl
         rotate_left
         ·simp only [Act.put,lA_,lZ_,lS_,i64_w,i32_w]
          rfl
         refine take_ (i:=11) (N:=some 119) (v:=?_) (a':=?_) laws_FnKeys.calls.b22 rfl rfl (take_ofW HT_.out HW_.out (by kernel_rfl)) (fun _ _ _ h => h) (Or.inl ⟨by rfl,?_⟩) hHeld ?_ ?_
         rotate_left
         ·rintro w' ⟨s0,s1,s2,s3,s4,s5,s6,s7,s8,s9,s10,s11,s12,s13,s14⟩
          go_simp
          with_reducible rfl
         rotate_left
         ·simp only [Act.put,lA_,lZ_,lS_,i64_w,i32_w]
          rfl
         refine take_ (i:=13) (N:=some 121) (v:=?_) (a':=?_) laws_FnKeys.calls.b23 rfl rfl (take_ofW HT_.out HW_.out (by kernel_rfl)) (fun _ _ _ h => h) (Or.inl ⟨by rfl,?_⟩) hHeld ?_ ?_
         rotate_left
         ·rintro w' ⟨s0,s1,s2,s3,s4,s5,s6,s7,s8,s9,s10,s11,s12,s13,s14⟩
          go_simp
          with_reducible rfl
         rotate_left
         ·simp only [Act.put,lA_,lZ_,lS_,i64_w,i32_w]
          rfl
         refine pure_ (i:=14) (N:=some 122) (v:=?_) (a':=?_) laws_FnKeys.calls.b25 rfl rfl (any_of HT_.out (by kernel_rfl)) (fun _ _ _ h => h) (Or.inl ⟨by rfl,?_⟩) ?_ ?_
         rotate_left
         ·intro w'
          go_simp
          with_reducible rfl
         rotate_left
         ·simp only [Act.put,lA_,lZ_,lS_,i64_w,i32_w]
          rfl
         refine pure_ (i:=15) (N:=some 123) (v:=?_) (a':=?_) laws_FnKeys.calls.b28 rfl rfl (any_of HT_.out (by kernel_rfl)) (fun _ _ _ h => h) (Or.inl ⟨by rfl,?_⟩) ?_ ?_
         rotate_left
         ·intro w'
          go_simp
          with_reducible rfl
         rotate_left
         ·simp only [Act.put,lA_,lZ_,lS_,i64_w,i32_w]
          rfl
         refine pure_ (i:=16) (N:=some 124) (v:=?_) (a':=?_) laws_FnKeys.calls.b30 rfl rfl (any_of HT_.out (by kernel_rfl)) (fun _ _ _ h => h) (Or.inl ⟨by rfl,?_⟩) ?_ ?_
         rotate_left
         ·intro w'
          go_simp
          with_reducible rfl
         rotate_left
         ·simp only [Act.put,lA_,lZ_,lS_,i64_w,i32_w]
          rfl
         refine pure_ (i:=17) (N:=some 125) (v:=?_) (a':=?_) laws_FnKeys.calls.b32 rfl rfl (any_of HT_.out (by kernel_rfl)) (fun _ _ _ h => h) (Or.inl ⟨by rfl,?_⟩) ?_ ?_
         rotate_left
         ·intro w'
          go_simp
          with_reducible rfl
         rotate_left
         ·simp only [Act.put,lA_,lZ_,lS_,i64_w,i32_w]
          rfl
         refine pure_ (i:=20) (N:=some 128) (v:=?_) (a':=?_) laws_FnKeys.calls.b33 rfl rfl (any_of HT_.out (by kernel_rfl)) (fun _ _ _ h => h) (Or.inl ⟨by rfl,?_⟩) ?_ ?_
         rotate_left
         ·intro w'
          go_simp
          with_reducible rfl
         rotate_left
         ·simp only [Act.put,lA_,lZ_,lS_,i64_w,i32_w]
          rfl
         refine take_ (i:=18) (N:=some 126) (v:=?_) (a':=?_) laws_FnKeys.calls.b35 rfl rfl (take_ofW HT_.out HW_.out (by kernel_rfl)) (fun _ _ _ h => h) (Or.inl ⟨by rfl,?_⟩) hHeld ?_ ?_
         rotate_left
         ·rintro w' ⟨s0,s1,s2,s3,s4,s5,s6,s7,s8,s9,s10,s11,s12,s13,s14⟩
          go_simp
          with_reducible rfl
         rotate_left
         ·simp only [Act.put,lA_,lZ_,lS_,i64_w,i32_w]
          rfl
         refine pure_ (i:=19) (N:=some 127) (v:=?_) (a':=?_) laws_FnKeys.calls.b36 rfl rfl (any_of HT_.out (by kernel_rfl)) (fun _ _ _ h => h) (Or.inl ⟨by rfl,?_⟩) ?_ ?_
         rotate_left
         ·intro w'
          go_simp
          with_reducible rfl
         rotate_left
         ·simp only [Act.put,lA_,lZ_,lS_,i64_w,i32_w]
          rfl
         refine take_ (i:=21) (N:=some 129) (v:=?_) (a':=?_) laws_FnKeys.calls.b37 rfl rfl (take_ofW HT_.out HW_.out (by kernel_rfl)) (fun _ _ _ h => h) (Or.inl ⟨by rfl,?_⟩) hHeld ?_ ?_
         rotate_left
         ·rintro w' ⟨s0,s1,s2,s3,s4,s5,s6,s7,s8,s9,s10,s11,s12,s13,s14⟩
          go_simp
          with_reducible rfl
         rotate_left
         ·simp only [Act.put,lA_,lZ_,lS_,i64_w,i32_w]
          rfl
         refine pure_ (i:=22) (N:=some 130) (v:=?_) (a':=?_) laws_FnKeys.calls.b38 rfl rfl (any_of HT_.out (by kernel_rfl)) (fun _ _ _ h => h) (Or.inl ⟨by rfl,?_⟩) ?_ ?_
         rotate_left
         ·intro w'
          go_simp
          with_reducible rfl
         rotate_left
         ·simp only [Act.put,lA_,lZ_,lS_,i64_w,i32_w]
          rfl
         refine pure_ (i:=23) (N:=some 131) (v:=?_) (a':=?_) laws_FnKeys.calls.b39 rfl rfl (any_of HT_.out (by kernel_rfl)) (fun _ _ _ h => h) (Or.inl ⟨by rfl,?_⟩) ?_ ?_
         rotate_left
         ·intro w'
          go_simp
          with_reducible rfl
         rotate_left
         ·simp only [Act.put,lA_,lZ_,lS_,i64_w,i32_w]
          rfl
         refine pure_ (i:=24) (N:=some 132) (v:=?_) (a':=?_) laws_FnKeys.calls.b40 rfl rfl (any_of HT_.out (by kernel_rfl)) (fun _ _ _ h => h) (Or.inl ⟨by rfl,?_⟩) ?_ ?_
         rotate_left
         ·intro w'
          go_simp
          with_reducible rfl
         rotate_left
         ·simp only [Act.put,lA_,lZ_,lS_,i64_w,i32_w]
          rfl
         refine pure_ (i:=25) (N:=some 133) (v:=?_) (a':=?_) laws_FnKeys.calls.b41 rfl rfl (any_of HT_.out (by kernel_rfl)) (fun _ _ _ h => h) (Or.inl ⟨by rfl,?_⟩) ?_ ?_
         rotate_left
         ·intro w'
          go_simp
          with_reducible rfl
         rotate_left
         ·simp only [Act.put,lA_,lZ_,lS_,i64_w,i32_w]
          rfl
         refine pure_ (i:=26) (N:=some 134) (v:=?_) (a':=?_) laws_FnKeys.calls.b42 rfl rfl (any_of HT_.out (by kernel_rfl)) (fun _ _ _ h => h) (Or.inl ⟨by rfl,?_⟩) ?_ ?_
         rotate_left
         ·intro w'
          go_simp
          with_reducible rfl
         rotate_left
         ·simp only [Act.put,lA_,lZ_,lS_,i64_w,i32_w]
          rfl
         refine pure_ (i:=27) (N:=some 135) (v:=?_) (a':=?_) laws_FnKeys.calls.b43 rfl rfl (any_of HT_.out (by kernel_rfl)) (fun _ _ _ h => h) (Or.inl ⟨by rfl,?_⟩) ?_ ?_
         rotate_left
         ·intro w'
          go_simp
          with_reducible rfl
         rotate_left
         ·simp only [Act.put,lA_,lZ_,lS_,i64_w,i32_w]
          rfl
         refine pure_ (i:=29) (N:=some 137) (v:=?_) (a':=?_) laws_FnKeys.calls.b44 rfl rfl (any_of HT_.out (by kernel_rfl)) (fun _ _ _ h => h) (Or.inl ⟨by rfl,?_⟩) ?_ ?_
         rotate_left
         ·intro w'
          go_simp
          with_reducible rfl
         rotate_left
         ·simp only [Act.put,lA_,lZ_,lS_,i64_w,i32_w]
          rfl
         refine pure_ (i:=30) (N:=some 138) (v:=?_) (a':=?_) laws_FnKeys.calls.b45 rfl rfl (any_of HT_.out (by kernel_rfl)) (fun _ _ _ h => h) (Or.inl ⟨by rfl,?_⟩) ?_ ?_
         rotate_left
         ·intro w'
          go_simp
          with_reducible rfl
         rotate_left
         ·simp only [Act.put,lA_,lZ_,lS_,i64_w,i32_w]
          rfl
         refine take_ (i:=28) (N:=some 136) (v:=?_) (a':=?_) laws_FnKeys.calls.b46 rfl rfl (take_ofW HT_.out HW_.out (by kernel_rfl)) (fun _ _ _ h => h) (Or.inl ⟨by rfl,?_⟩) hHeld ?_ ?_
         rotate_left
         ·rintro w' ⟨s0,s1,s2,s3,s4,s5,s6,s7,s8,s9,s10,s11,s12,s13,s14⟩
          go_simp
          with_reducible rfl
         rotate_left
         ·simp only [Act.put,lA_,lZ_,lS_,i64_w,i32_w]
          rfl
         refine take_ (i:=31) (N:=some 139) (v:=?_) (a':=?_) laws_FnKeys.calls.b47 rfl rfl (take_ofW HT_.out HW_.out (by kernel_rfl)) (fun _ _ _ h => h) (Or.inl ⟨by rfl,?_⟩) hHeld ?_ ?_
         rotate_left
         ·rintro w' ⟨s0,s1,s2,s3,s4,s5,s6,s7,s8,s9,s10,s11,s12,s13,s14⟩
          go_simp
          with_reducible rfl
         rotate_left
         ·simp only [Act.put,lA_,lZ_,lS_,i64_w,i32_w]
          rfl
         refine pure_ (i:=32) (N:=some 140) (v:=?_) (a':=?_) laws_FnKeys.calls.b48 rfl rfl (any_of HT_.out (by kernel_rfl)) (fun _ _ _ h => h) (Or.inl ⟨by rfl,?_⟩) ?_ ?_
         rotate_left
         ·intro w'
          go_simp
          with_reducible rfl
         rotate_left
         ·simp only [Act.put,lA_,lZ_,lS_,i64_w,i32_w]
          rfl
         refine pure_ (i:=33) (N:=some 141) (v:=?_) (a':=?_) laws_FnKeys.calls.b49 rfl rfl (any_of HT_.out (by kernel_rfl)) (fun _ _ _ h => h) (Or.inl ⟨by rfl,?_⟩) ?_ ?_
         rotate_left
         ·intro w'
          go_simp
          with_reducible rfl
         rotate_left
         ·simp only [Act.put,lA_,lZ_,lS_,i64_w,i32_w]
          rfl
         refine pure_ (i:=34) (N:=some 142) (v:=?_) (a':=?_) laws_FnKeys.calls.b50 rfl rfl (any_of HT_.out (by kernel_rfl)) (fun _ _ _ h => h) (Or.inl ⟨by rfl,?_⟩) ?_ ?_
         rotate_left
         ·intro w'
          go_simp
          with_reducible rfl
         rotate_left
         ·simp only [Act.put,lA_,lZ_,lS_,i64_w,i32_w]
          rfl
         refine pure_ (i:=35) (N:=some 143) (v:=?_) (a':=?_) laws_FnKeys.calls.b51 rfl rfl (any_of HT_.out (by kernel_rfl)) (fun _ _ _ h => h) (Or.inl ⟨by rfl,?_⟩) ?_ ?_
         rotate_left
         ·intro w'
          go_simp
          with_reducible rfl
         rotate_left
         ·simp only [Act.put,lA_,lZ_,lS_,i64_w,i32_w]
          rfl
         refine pure_ (i:=36) (N:=some 144) (v:=?_) (a':=?_) laws_FnKeys.calls.b52 rfl rfl (any_of HT_.out (by kernel_rfl)) (fun _ _ _ h => h) (Or.inl ⟨by rfl,?_⟩) ?_ ?_
         rotate_left
         ·intro w'
          go_simp
          with_reducible rfl
         rotate_left
         ·simp only [Act.put,lA_,lZ_,lS_,i64_w,i32_w]
          rfl
         refine pure_ (i:=38) (N:=some 146) (v:=?_) (a':=?_) laws_FnKeys.calls.b53 rfl rfl (any_of HT_.out (by kernel_rfl)) (fun _ _ _ h => h) (Or.inl ⟨by rfl,?_⟩) ?_ ?_
         rotate_left
         ·intro w'
          go_simp
          with_reducible rfl
         rotate_left
         ·simp only [Act.put,lA_,lZ_,lS_,i64_w,i32_w]
          rfl
         refine pure_ (i:=39) (N:=some 147) (v:=?_) (a':=?_) laws_FnKeys.calls.b54 rfl rfl (any_of HT_.out (by kernel_rfl)) (fun _ _ _ h => h) (Or.inl ⟨by rfl,?_⟩) ?_ ?_
         rotate_left
         ·intro w'
          go_simp
          with_reducible rfl
         rotate_left
         ·simp only [Act.put,lA_,lZ_,lS_,i64_w,i32_w]
          rfl
         refine take_ (i:=37) (N:=some 145) (v:=?_) (a':=?_) laws_FnKeys.calls.b55 rfl rfl (take_ofW HT_.out HW_.out (by kernel_rfl)) (fun _ _ _ h => h) (Or.inl ⟨by rfl,?_⟩) hHeld ?_ ?_
         rotate_left
         ·rintro w' ⟨s0,s1,s2,s3,s4,s5,s6,s7,s8,s9,s10,s11,s12,s13,s14⟩
          go_simp
          with_reducible rfl
         rotate_left
         ·simp only [Act.put,lA_,lZ_,lS_,i64_w,i32_w]
          rfl
         refine take_ (i:=40) (N:=some 148) (v:=?_) (a':=?_) laws_FnKeys.calls.b56 rfl rfl (take_ofW HT_.out HW_.out (by kernel_rfl)) (fun _ _ _ h => h) (Or.inl ⟨by rfl,?_⟩) hHeld ?_ ?_
         rotate_left
         ·rintro w' ⟨s0,s1,s2,s3,s4,s5,s6,s7,s8,s9,s10,s11,s12,s13,s14⟩
          go_simp
          with_reducible rfl
         rotate_left
         ·simp only [Act.put,lA_,lZ_,lS_,i64_w,i32_w]
          rfl
         refine pure_ (i:=41) (N:=some 149) (v:=?_) (a':=?_) laws_FnKeys.calls.b57 rfl rfl (any_of HT_.out (by kernel_rfl)) (fun _ _ _ h => h) (Or.inl ⟨by rfl,?_⟩) ?_ ?_
         rotate_left
         ·intro w'
          go_simp
          with_reducible rfl
         rotate_left
         ·simp only [Act.put,lA_,lZ_,lS_,i64_w,i32_w]
          rfl
         refine pure_ (i:=42) (N:=some 150) (v:=?_) (a':=?_) laws_FnKeys.calls.b58 rfl rfl (any_of HT_.out (by kernel_rfl)) (fun _ _ _ h => h) (Or.inl ⟨by rfl,?_⟩) ?_ ?_
         rotate_left
         ·intro w'
          go_simp
          with_reducible rfl
         rotate_left
         ·simp only [Act.put,lA_,lZ_,lS_,i64_w,i32_w]
          rfl
         refine pure_ (i:=43) (N:=some 151) (v:=?_) (a':=?_) laws_FnKeys.calls.b59 rfl rfl (any_of HT_.out (by kernel_rfl)) (fun _ _ _ h => h) (Or.inl ⟨by rfl,?_⟩) ?_ ?_
         rotate_left
         ·intro w'
          go_simp
          with_reducible rfl
         rotate_left
         ·simp only [Act.put,lA_,lZ_,lS_,i64_w,i32_w]
          rfl
         refine pure_ (i:=44) (N:=some 152) (v:=?_) (a':=?_) laws_FnKeys.calls.b60 rfl rfl (any_of HT_.out (by kernel_rfl)) (fun _ _ _ h => h) (Or.inl ⟨by rfl,?_⟩) ?_ ?_
         rotate_left
         ·intro w'
          go_simp
          with_reducible rfl
         rotate_left
         ·simp only [Act.put,lA_,lZ_,lS_,i64_w,i32_w]
          rfl
         refine pure_ (i:=45) (N:=some 153) (v:=?_) (a':=?_) laws_FnKeys.calls.b61 rfl rfl (any_of HT_.out (by kernel_rfl)) (fun _ _ _ h => h) (Or.inl ⟨by rfl,?_⟩) ?_ ?_
         rotate_left
         ·intro w'
          go_simp
          with_reducible rfl
         rotate_left
         ·simp only [Act.put,lA_,lZ_,lS_,i64_w,i32_w]
          rfl
         refine pure_ (i:=46) (N:=some 154) (v:=?_) (a':=?_) laws_FnKeys.calls.b62 rfl rfl (any_of HT_.out (by kernel_rfl)) (fun _ _ _ h => h) (Or.inl ⟨by rfl,?_⟩) ?_ ?_
         rotate_left
         ·intro w'
          go_simp
          with_reducible rfl
         rotate_left
         ·simp only [Act.put,lA_,lZ_,lS_,i64_w,i32_w]
          rfl
         refine pure_ (i:=47) (N:=some 155) (v:=?_) (a':=?_) laws_FnKeys.calls.b63 rfl rfl (any_of HT_.out (by kernel_rfl)) (fun _ _ _ h => h) (Or.inl ⟨by rfl,?_⟩) ?_ ?_
         rotate_left
         ·intro w'
          go_simp
          with_reducible rfl
         rotate_left
         ·simp only [Act.put,lA_,lZ_,lS_,i64_w,i32_w]
          rfl
         refine pure_ (i:=49) (N:=some 157) (v:=?_) (a':=?_) laws_FnKeys.calls.b64 rfl rfl (any_of HT_.out (by kernel_rfl)) (fun _ _ _ h => h) (Or.inl ⟨by rfl,?_⟩) ?_ ?_
         rotate_left
         ·intro w'
          go_simp
          with_reducible rfl
         rotate_left
         ·simp only [Act.put,lA_,lZ_,lS_,i64_w,i32_w]
          rfl
         refine pure_ (i:=50) (N:=some 158) (v:=?_) (a':=?_) laws_FnKeys.calls.b65 rfl rfl (any_of HT_.out (by kernel_rfl)) (fun _ _ _ h => h) (Or.inl ⟨by rfl,?_⟩) ?_ ?_
         rotate_left
         ·intro w'
          go_simp
          with_reducible rfl
         rotate_left
         ·simp only [Act.put,lA_,lZ_,lS_,i64_w,i32_w]
          rfl
         refine pure_ (i:=51) (N:=some 159) (v:=?_) (a':=?_) laws_FnKeys.calls.b66 rfl rfl (any_of HT_.out (by kernel_rfl)) (fun _ _ _ h => h) (Or.inl ⟨by rfl,?_⟩) ?_ ?_
         rotate_left
         ·intro w'
          go_simp
          with_reducible rfl
         rotate_left
         ·simp only [Act.put,lA_,lZ_,lS_,i64_w,i32_w]
          rfl
         refine take_ (i:=48) (N:=some 156) (v:=?_) (a':=?_) laws_FnKeys.calls.b67 rfl rfl (take_ofW HT_.out HW_.out (by kernel_rfl)) (fun _ _ _ h => h) (Or.inl ⟨by rfl,?_⟩) hHeld ?_ ?_
         rotate_left
         ·rintro w' ⟨s0,s1,s2,s3,s4,s5,s6,s7,s8,s9,s10,s11,s12,s13,s14⟩
          go_simp
          with_reducible rfl
         rotate_left
         ·simp only [Act.put,lA_,lZ_,lS_,i64_w,i32_w]
          rfl
         refine take_ (i:=52) (N:=some 160) (v:=?_) (a':=?_) laws_FnKeys.calls.b68 rfl rfl (take_ofW HT_.out HW_.out (by kernel_rfl)) (fun _ _ _ h => h) (Or.inl ⟨by rfl,?_⟩) hHeld ?_ ?_
         rotate_left
         ·rintro w' ⟨s0,s1,s2,s3,s4,s5,s6,s7,s8,s9,s10,s11,s12,s13,s14⟩
          go_simp
          with_reducible rfl
         rotate_left
         ·simp only [Act.put,lA_,lZ_,lS_,i64_w,i32_w]
          rfl
         refine one_ (i:=53) (N:=some 161) laws_FnKeys.calls.b69 rfl rfl (one_of HT_.out (by kernel_rfl)) (by decide) (fun K hK => ?_)
         refine goes_ Try.func14 (by kernel_rfl) rfl #[.slice ac t378.length ad,.slice cv x13_11.length cw,.int .i64 t362] (by rfl) rfl rfl (by (try simp only [List.map_toArray,List.map_cons,List.map_nil]);first | done | rfl | (simp only [List.length_drop,List.length_take];rfl)) ?_
         with_reducible refine (impl_IsSecret.calls kj40 _ _ t378 _ _ x13_11 t362 true _ ?side1 ?side2 ?side3 ?side4 cb.out).mono ?_
         (case side1 => exact Rc_ a4)
         (case side2 => exact (Kd.R_reads' a4.out).2.1)
         (case side3 => exact Rc_ aa)
         (case side4 => exact (Kd.R_reads' aa.out).2.1)
         rintro e w67 ⟨rfl,hb⟩
         refine ⟨_,rfl,?_⟩
         replace aa:=Z_ (Kd.R_below (Rk_ aa) hb)
         replace a5:=Z_ (Kd.R_below (Rk_ a5) hb)
         replace a4:=Z_ (Kd.R_below (Rk_ a4) hb)
         replace a8:=Z_ (Kd.R_below (Rk_ a8) hb)
         replace a1:=Z_ (bB_ (g:=a6) (o:=.cells #[.int .i64 t359,.int .i64 t360,.int .i64 t361,.int .i64 t362,.int .i64 t363,.slice ai t364.length ah] 30 (0,0)) (Bk_ a1) hb)
         replace a2:=Z_ (bB_ (g:=a7) (o:=.cells #[.int .i64 t376,.int .i64 t377,.slice ac t378.length ad] 33 (0,0)) (Bk_ a2) hb)
         replace a0:=Z_ (bB_ (g:=a9) (o:=.cells #[.int .i64 t388,.int .i64 t389,.int .i64 t390,.int .i64 t391,.int .i64 t392,.slice al t393.length am] 30 (0,0)) (Bk_ a0) hb)
         replace HB:=Z_ (lP_ Lb_ hb)
         (try clear hb)
         (try clear hb2)
         (try clear hk)
         (try clear hi)
         refine hK.out _ _ ⟨(blk_cell a1.out 0).trans rfl,(blk_cell a1.out 1).trans rfl,(blk_cell a1.out 2).trans rfl,(blk_cell a1.out 3).trans rfl,(blk_cell a1.out 4).trans rfl,(blk_cell a1.out 5).trans rfl,(blk_cell a0.out 0).trans rfl,(blk_cell a0.out 1).trans rfl,(blk_cell a0.out 2).trans rfl,(blk_cell a0.out 3).trans rfl,(blk_cell a0.out 4).trans rfl,(blk_cell a0.out 5).trans rfl,(blk_cell a2.out 0).trans rfl,(blk_cell a2.out 1).trans rfl,(blk_cell a2.out 2).trans rfl⟩ (fun hHeld => ?_)
         clear hK K
         refine norm_ (a':=?_) ?_ ?_
         rotate_left
         ·show Act.put _ (some 161) _ = _
          simp only [Act.put,lA_,lZ_,lS_,i64_w,i32_w]
          rfl
         refine pure_ (i:=54) (N:=some 162) (v:=?_) (a':=?_) laws_FnKeys.calls.b70 rfl rfl (any_of HT_.out (by kernel_rfl)) (fun _ _ _ h => h) (Or.inl ⟨by rfl,?_⟩) ?_ ?_
         rotate_left
         ·intro w'
          go_simp
          with_reducible rfl
         rotate_left
         ·simp only [Act.put,lA_,lZ_,lS_,i64_w,i32_w]
          rfl
         refine pure_ (i:=55) (N:=some 163) (v:=?_) (a':=?_) laws_FnKeys.calls.b71 rfl rfl (any_of HT_.out (by kernel_rfl)) (fun _ _ _ h => h) (Or.inl ⟨by rfl,?_⟩) ?_ ?_
         rotate_left
         ·intro w'
          go_simp
          with_reducible rfl
         rotate_left
         ·simp only [Act.put,lA_,lZ_,lS_,i64_w,i32_w]
          rfl
         refine pure_ (i:=56) (N:=some 164) (v:=undef) (a':=?_) laws_FnKeys.calls.b72 rfl rfl (any_of HT_.out (by kernel_rfl)) (fun _ _ _ h => h) (Or.inr ⟨by rfl,rfl⟩) ?_ ?_
         rotate_left
         ·simp only [Act.put,lA_,lZ_,lS_,i64_w,i32_w]
          rfl
         refine pure_ (i:=57) (N:=some 165) (v:=undef) (a':=?_) laws_FnKeys.calls.b76 rfl rfl (any_of HT_.out (by kernel_rfl)) (fun _ _ _ h => h) (Or.inr ⟨by rfl,rfl⟩) ?_ ?_
         rotate_left
         ·simp only [Act.put,lA_,lZ_,lS_,i64_w,i32_w]
          rfl
         refine pure_ (i:=58) (N:=some 166) (v:=undef) (a':=?_) laws_FnKeys.calls.b77 rfl rfl (any_of HT_.out (by kernel_rfl)) (fun _ _ _ h => h) (Or.inr ⟨by rfl,rfl⟩) ?_ ?_
         rotate_left
         ·simp only [Act.put,lA_,lZ_,lS_,i64_w,i32_w]
          rfl
         refine pure_ (i:=59) (N:=some 167) (v:=undef) (a':=?_) laws_FnKeys.calls.b78 rfl rfl (any_of HT_.out (by kernel_rfl)) (fun _ _ _ h => h) (Or.inr ⟨by rfl,rfl⟩) ?_ ?_
         rotate_left
         ·simp only [Act.put,lA_,lZ_,lS_,i64_w,i32_w]
          rfl
         refine pure_ (i:=60) (N:=some 168) (v:=undef) (a':=?_) laws_FnKeys.calls.b79 rfl rfl (any_of HT_.out (by kernel_rfl)) (fun _ _ _ h => h) (Or.inr ⟨by rfl,rfl⟩) ?_ ?_
         rotate_left
         ·simp only [Act.put,lA_,lZ_,lS_,i64_w,i32_w]
          rfl
         refine pure_ (i:=61) (N:=some 169) (v:=undef) (a':=?_) laws_FnKeys.calls.b80 rfl rfl (any_of HT_.out (by kernel_rfl)) (fun _ _ _ h => h) (Or.inr ⟨by rfl,rfl⟩) ?_ ?_
         rotate_left
         ·simp only [Act.put,lA_,lZ_,lS_,i64_w,i32_w]
          rfl
         refine pure_ (i:=62) (N:=some 170) (v:=undef) (a':=?_) laws_FnKeys.calls.b81 rfl rfl (any_of HT_.out (by kernel_rfl)) (fun _ _ _ h => h) (Or.inr ⟨by rfl,rfl⟩) ?_ ?_
         rotate_left
         ·simp only [Act.put,lA_,lZ_,lS_,i64_w,i32_w]
          rfl
         refine pure_ (i:=63) (N:=some 171) (v:=?_) (a':=?_) laws_FnKeys.calls.b82 rfl rfl (any_of HT_.out (by kernel_rfl)) (fun _ _ _ h => h) (Or.inl ⟨by rfl,?_⟩) ?_ ?_
         rotate_left
         ·intro w'
          go_simp
          with_reducible rfl
         rotate_left
         ·simp only [Act.put,lA_,lZ_,lS_,i64_w,i32_w]
          rfl
         refine pure_ (i:=64) (N:=some 172) (v:=?_) (a':=?_) laws_FnKeys.calls.b83 rfl rfl (any_of HT_.out (by kernel_rfl)) (fun _ _ _ h => h) (Or.inl ⟨by rfl,?_⟩) ?_ ?_
         rotate_left
         ·intro w'
          go_simp
          with_reducible rfl
         rotate_left
         ·simp only [Act.put,lA_,lZ_,lS_,i64_w,i32_w]
          rfl
         refine pure_ (i:=65) (N:=some 173) (v:=undef) (a':=?_) laws_FnKeys.calls.b84 rfl rfl (any_of HT_.out (by kernel_rfl)) (fun _ _ _ h => h) (Or.inr ⟨by rfl,rfl⟩) ?_ ?_
         rotate_left
         ·simp only [Act.put,lA_,lZ_,lS_,i64_w,i32_w]
          rfl
         refine pure_ (i:=66) (N:=some 174) (v:=undef) (a':=?_) laws_FnKeys.calls.b85 rfl rfl (any_of HT_.out (by kernel_rfl)) (fun _ _ _ h => h) (Or.inr ⟨by rfl,rfl⟩) ?_ ?_
         rotate_left
         ·simp only [Act.put,lA_,lZ_,lS_,i64_w,i32_w]
          rfl
         refine pure_ (i:=67) (N:=some 175) (v:=undef) (a':=?_) laws_FnKeys.calls.b86 rfl rfl (any_of HT_.out (by kernel_rfl)) (fun _ _ _ h => h) (Or.inr ⟨by rfl,rfl⟩) ?_ ?_
         rotate_left
         ·simp only [Act.put,lA_,lZ_,lS_,i64_w,i32_w]
          rfl
         refine pure_ (i:=68) (N:=some 176) (v:=undef) (a':=?_) laws_FnKeys.calls.b87 rfl rfl (any_of HT_.out (by kernel_rfl)) (fun _ _ _ h => h) (Or.inr ⟨by rfl,rfl⟩) ?_ ?_
         rotate_left
         ·simp only [Act.put,lA_,lZ_,lS_,i64_w,i32_w]
          rfl
         refine pure_ (i:=69) (N:=some 177) (v:=undef) (a':=?_) laws_FnKeys.calls.b88 rfl rfl (any_of HT_.out (by kernel_rfl)) (fun _ _ _ h => h) (Or.inr ⟨by rfl,rfl⟩) ?_ ?_
         rotate_left
         ·simp only [Act.put,lA_,lZ_,lS_,i64_w,i32_w]
          rfl
         refine pure_ (i:=70) (N:=some 178) (v:=undef) (a':=?_) laws_FnKeys.calls.b89 rfl rfl (any_of HT_.out (by kernel_rfl)) (fun _ _ _ h => h) (Or.inr ⟨by rfl,rfl⟩) ?_ ?_
         rotate_left
         ·simp only [Act.put,lA_,lZ_,lS_,i64_w,i32_w]
          rfl
         refine pure_ (i:=71) (N:=some 179) (v:=undef) (a':=?_) laws_FnKeys.calls.b90 rfl rfl (any_of HT_.out (by kernel_rfl)) (fun _ _ _ h => h) (Or.inr ⟨by rfl,rfl⟩) ?_ ?_
         rotate_left
         ·simp only [Act.put,lA_,lZ_,lS_,i64_w,i32_w]
          rfl
         refine pure_ (i:=72) (N:=some 180) (v:=undef) (a':=?_) laws_FnKeys.calls.b91 rfl rfl (any_of HT_.out (by kernel_rfl)) (fun _ _ _ h => h) (Or.inr ⟨by rfl,rfl⟩) ?_ ?_
         rotate_left
         ·simp only [Act.put,lA_,lZ_,lS_,i64_w,i32_w]
          rfl
         refine pure_ (i:=73) (N:=some 181) (v:=undef) (a':=?_) laws_FnKeys.calls.b92 rfl rfl (any_of HT_.out (by kernel_rfl)) (fun _ _ _ h => h) (Or.inr ⟨by rfl,rfl⟩) ?_ ?_
         rotate_left
         ·simp only [Act.put,lA_,lZ_,lS_,i64_w,i32_w]
          rfl
         refine pure_ (i:=74) (N:=some 182) (v:=?_) (a':=?_) laws_FnKeys.calls.b93 rfl rfl (any_of HT_.out (by kernel_rfl)) (fun _ _ _ h => h) (Or.inl ⟨by rfl,?_⟩) ?_ ?_
         rotate_left
         ·intro w'
          go_simp
          with_reducible rfl
         rotate_left
         ·simp only [Act.put,lA_,lZ_,lS_,i64_w,i32_w]
          rfl
         refine pure_ (i:=75) (N:=some 183) (v:=?_) (a':=?_) laws_FnKeys.calls.b94 rfl rfl (any_of HT_.out (by kernel_rfl)) (fun _ _ _ h => h) (Or.inl ⟨by rfl,?_⟩) ?_ ?_
         rotate_left
         ·intro w'
          go_simp
          with_reducible rfl
         rotate_left
         ·simp only [Act.put,lA_,lZ_,lS_,i64_w,i32_w]
          rfl
         refine pure_ (i:=76) (N:=some 2) (v:=?_) (a':=?_) laws_FnKeys.calls.b95 rfl rfl (any_of HT_.out (by kernel_rfl)) (fun _ _ _ h => h) (Or.inl ⟨by rfl,?_⟩) ?_ ?_
         rotate_left
         ·intro w'
          go_simp
          with_reducible rfl
         rotate_left
         ·simp only [Act.put,lA_,lZ_,lS_,i64_w,i32_w]
          rfl
         refine done_ (done_of HT_.out (by kernel_rfl)) ?_
         try go_wp2
         go_ret
         exact ⟨by first | rfl | (rw [hr_.out];first | done | rfl) | (simp [errW_none,errW_some] <;> rfl) | (simp [*,errW_none,errW_some] <;> rfl),Lb_⟩
       ·replace H:=bS_ H
        obtain ⟨t408,cr,H⟩:=H
        replace H:=iB_ H
        obtain ⟨rfl,H⟩ | ⟨rfl,H⟩:=H
        ·as_aux_lemma =>
          clear H
          try go_wp2
          replace aa:=Z_ (rD_ aa.out)
          replace a5:=Z_ (rD_ a5.out)
          replace a4:=Z_ (rD_ a4.out)
          replace a8:=Z_ (rD_ a8.out)
          replace a1:=Z_ (bD_ a1.out)
          replace a2:=Z_ (bD_ a2.out)
          replace a0:=Z_ (bD_ a0.out)
          replace HB:=Z_ (lD_ HB.out)
          refine start_ (n:=77) (S:=fun w' => w'.cell? ⟨a6,0,none⟩ = some (.int .i64 t359) ∧ w'.cell? ⟨a6,1,none⟩ = some (.int .i64 t360) ∧ w'.cell? ⟨a6,2,none⟩ = some (.int .i64 t361) ∧ w'.cell? ⟨a6,3,none⟩ = some (.int .i64 t362) ∧ w'.cell? ⟨a6,4,none⟩ = some (.int .i64 t363) ∧ w'.cell? ⟨a6,5,none⟩ = some (.slice ai t364.length ah) ∧ w'.cell? ⟨a9,0,none⟩ = some (.int .i64 t388) ∧ w'.cell? ⟨a9,1,none⟩ = some (.int .i64 t389) ∧ w'.cell? ⟨a9,2,none⟩ = some (.int .i64 t390) ∧ w'.cell? ⟨a9,3,none⟩ = some (.int .i64 t391) ∧ w'.cell? ⟨a9,4,none⟩ = some (.int .i64 t392) ∧ w'.cell? ⟨a9,5,none⟩ = some (.slice al t393.length am) ∧ w'.cell? ⟨a7,0,none⟩ = some (.int .i64 t376) ∧ w'.cell? ⟨a7,1,none⟩ = some (.int .i64 t377) ∧ w'.cell? ⟨a7,2,none⟩ = some (.slice ac t378.length ad)) (ds:=[]) laws_FnKeys.calls.b0 (by kernel_rfl) rfl rfl ⟨(blk_cell a1.out 0).trans rfl,(blk_cell a1.out 1).trans rfl,(blk_cell a1.out 2).trans rfl,(blk_cell a1.out 3).trans rfl,(blk_cell a1.out 4).trans rfl,(blk_cell a1.out 5).trans rfl,(blk_cell a0.out 0).trans rfl,(blk_cell a0.out 1).trans rfl,(blk_cell a0.out 2).trans rfl,(blk_cell a0.out 3).trans rfl,(blk_cell a0.out 4).trans rfl,(blk_cell a0.out 5).trans rfl,(blk_cell a2.out 0).trans rfl,(blk_cell a2.out 1).trans rfl,(blk_cell a2.out 2).trans rfl⟩ (fun hHeld => ?_);refine with_tabW laws_FnKeys.tab15 laws_FnKeys.bits15 (fun HT_ HW_ => ?_)
          generalize wc.drew = w70 at aa a5 a4 a8 a1 a2 a0 HB hHeld ⊢
          refine pure_ (i:=0) (N:=some 108) (v:=?_) (a':=?_) laws_FnKeys.calls.b2 rfl rfl (any_of HT_.out (by kernel_rfl)) (fun _ _ _ h => h) (Or.inl ⟨by rfl,?_⟩) ?_ ?_
          rotate_left
          ·intro w'
           go_simp
           with_reducible rfl
          rotate_left
          ·simp only [Act.put,lA_,lZ_,lS_,i64_w,i32_w]
           rfl
          refine take_ (i:=1) (N:=some 109) (v:=?_) (a':=?_) laws_FnKeys.calls.b6 rfl rfl (take_ofW HT_.out HW_.out (by kernel_rfl)) (fun _ _ _ h => h) (Or.inl ⟨by rfl,?_⟩) hHeld ?_ ?_
          rotate_left
          ·rintro w' ⟨s0,s1,s2,s3,s4,s5,s6,s7,s8,s9,s10,s11,s12,s13,s14⟩
           go_simp
           with_reducible rfl
          rotate_left
          ·simp only [Act.put,lA_,lZ_,lS_,i64_w,i32_w]
           rfl
          refine one_ (i:=2) (N:=some 110) laws_FnKeys.calls.b7 rfl rfl (one_of HT_.out (by kernel_rfl)) (by decide) (fun K hK => ?_)
          refine goes_ Try.func13 (by kernel_rfl) rfl #[.slice ai t364.length ah] (by rfl) rfl rfl (by (try simp only [List.map_toArray,List.map_cons,List.map_nil]);first | done | rfl | (simp only [List.length_drop,List.length_take];rfl)) ?_
          with_reducible refine (impl_TermsFault.calls _ _ t364 t406 _ ?side1 ?side2 bs.out).mono ?_
          (case side1 => exact Rc_ a5)
          (case side2 => exact (Kd.R_reads' a5.out).2.1)
          rintro e w71 ⟨rfl,hb⟩
          refine ⟨_,rfl,?_⟩
          replace aa:=Z_ (Kd.R_below (Rk_ aa) hb)
          replace a5:=Z_ (Kd.R_below (Rk_ a5) hb)
          replace a4:=Z_ (Kd.R_below (Rk_ a4) hb)
          replace a8:=Z_ (Kd.R_below (Rk_ a8) hb)
          replace a1:=Z_ (bB_ (g:=a6) (o:=.cells #[.int .i64 t359,.int .i64 t360,.int .i64 t361,.int .i64 t362,.int .i64 t363,.slice ai t364.length ah] 30 (0,0)) (Bk_ a1) hb)
          replace a2:=Z_ (bB_ (g:=a7) (o:=.cells #[.int .i64 t376,.int .i64 t377,.slice ac t378.length ad] 33 (0,0)) (Bk_ a2) hb)
          replace a0:=Z_ (bB_ (g:=a9) (o:=.cells #[.int .i64 t388,.int .i64 t389,.int .i64 t390,.int .i64 t391,.int .i64 t392,.slice al t393.length am] 30 (0,0)) (Bk_ a0) hb)
          replace HB:=Z_ (lP_ Lb_ hb)
          (try clear hb)
          (try clear hb2)
          (try clear hk)
          (try clear hi)
          obtain ⟨cd,ce,eo72⟩:=Kd.R_slice aa.out
          (first | subst eo72 | (injection eo72 with f1_ f2_ f3_;have f4_:=f1_.symm;have f5_:=f3_.symm;clear f1_ f2_ f3_;subst f4_;subst f5_))
          refine hK.out _ _ ⟨(blk_cell a1.out 0).trans rfl,(blk_cell a1.out 1).trans rfl,(blk_cell a1.out 2).trans rfl,(blk_cell a1.out 3).trans rfl,(blk_cell a1.out 4).trans rfl,(blk_cell a1.out 5).trans rfl,(blk_cell a0.out 0).trans rfl,(blk_cell a0.out 1).trans rfl,(blk_cell a0.out 2).trans rfl,(blk_cell a0.out 3).trans rfl,(blk_cell a0.out 4).trans rfl,(blk_cell a0.out 5).trans rfl,(blk_cell a2.out 0).trans rfl,(blk_cell a2.out 1).trans rfl,(blk_cell a2.out 2).trans rfl⟩ (fun hHeld => ?_)
          clear hK K
          refine norm_ (a':=?_) ?_ ?_
          rotate_left
          ·show Act.put _ (some 110) _ = _
           simp only [Act.put,lA_,lZ_,lS_,i64_w,i32_w]
           rfl
          refine pure_ (i:=3) (N:=some 111) (v:=?_) (a':=?_) laws_FnKeys.calls.b8 rfl rfl (any_of HT_.out (by kernel_rfl)) (fun _ _ _ h => h) (Or.inl ⟨by rfl,?_⟩) ?_ ?_
          rotate_left
          ·intro w'
           go_simp
           with_reducible rfl
          rotate_left
          ·simp only [Act.put,lA_,lZ_,lS_,i64_w,i32_w]
           rfl
          refine pure_ (i:=4) (N:=some 112) (v:=?_) (a':=?_) laws_FnKeys.calls.b10 rfl rfl (any_of HT_.out (by kernel_rfl)) (fun _ _ _ h => h) (Or.inl ⟨by rfl,?_⟩) ?_ ?_
          rotate_left
          ·intro w'
           go_simp
           with_reducible rfl
          rotate_left
          ·simp only [Act.put,lA_,lZ_,lS_,i64_w,i32_w]
           rfl
          refine pure_ (i:=5) (N:=some 113) (v:=?_) (a':=?_) laws_FnKeys.calls.b12 rfl rfl (any_of HT_.out (by kernel_rfl)) (fun _ _ _ h => h) (Or.inl ⟨by rfl,?_⟩) ?_ ?_
          rotate_left
          ·intro w'
           go_simp
           with_reducible rfl
          rotate_left
          ·simp only [Act.put,lA_,lZ_,lS_,i64_w,i32_w]
           rfl
          refine take_ (i:=6) (N:=some 114) (v:=?_) (a':=?_) laws_FnKeys.calls.b14 rfl rfl (take_ofW HT_.out HW_.out (by kernel_rfl)) (fun _ _ _ h => h) (Or.inl ⟨by rfl,?_⟩) hHeld ?_ ?_
          rotate_left
          ·rintro w' ⟨s0,s1,s2,s3,s4,s5,s6,s7,s8,s9,s10,s11,s12,s13,s14⟩
           go_simp
           with_reducible rfl
          rotate_left
          ·simp only [Act.put,lA_,lZ_,lS_,i64_w,i32_w]
           rfl
          refine pure_ (i:=7) (N:=some 115) (v:=?_) (a':=?_) laws_FnKeys.calls.b16 rfl rfl (any_of HT_.out (by kernel_rfl)) (fun _ _ _ h => h) (Or.inl ⟨by rfl,?_⟩) ?_ ?_
          rotate_left
          ·intro w'
           go_simp
           with_reducible rfl
          rotate_left
          ·simp only [Act.put,lA_,lZ_,lS_,i64_w,i32_w]
           rfl
          refine pure_ (i:=8) (N:=some 116) (v:=?_) (a':=?_) laws_FnKeys.calls.b18 rfl rfl (any_of HT_.out (by kernel_rfl)) (fun _ _ _ h => h) (Or.inl ⟨by rfl,?_⟩) ?_ ?_
          rotate_left
          ·intro w'
           go_simp
           with_reducible rfl
          rotate_left
          ·simp only [Act.put,lA_,lZ_,lS_,i64_w,i32_w]
           rfl
          refine pure_ (i:=9) (N:=some 117) (v:=?_) (a':=?_) laws_FnKeys.calls.b19 rfl rfl (any_of HT_.out (by kernel_rfl)) (fun _ _ _ h => h) (Or.inl ⟨by rfl,?_⟩) ?_ ?_
          rotate_left
          ·intro w'
           go_simp
           with_reducible rfl
          rotate_left
          ·simp only [Act.put,lA_,lZ_,lS_,i64_w,i32_w]
           rfl
          refine pure_ (i:=10) (N:=some 118) (v:=?_) (a':=?_) laws_FnKeys.calls.b20 rfl rfl (any_of HT_.out (by kernel_rfl)) (fun _ _ _ h => h) (Or.inl ⟨by rfl,?_⟩) ?_ ?_
          rotate_left
          ·intro w'
           go_simp
           with_reducible rfl
          rotate_left
          ·simp only [Act.put,lA_,lZ_,lS_,i64_w,i32_w]
           rfl
          refine pure_ (i:=12) (N:=some 120) (v:=?_) (a':=?_) laws_FnKeys.calls.b21 rfl rfl (any_of HT_.out (by kernel_rfl)) (fun _ _ _ h => h) (Or.inl ⟨by rfl,?_⟩) ?_ ?_
          rotate_left
          ·intro w'
           go_simp
           with_reducible rfl
          rotate_left
          ·simp only [Act.put,lA_,lZ_,lS_,i64_w,i32_w]
           rfl
          refine take_ (i:=11) (N:=some 119) (v:=?_) (a':=?_) laws_FnKeys.calls.b22 rfl rfl (take_ofW HT_.out HW_.out (by kernel_rfl)) (fun _ _ _ h => h) (Or.inl ⟨by rfl,?_⟩) hHeld ?_ ?_
          rotate_left
          ·rintro w' ⟨s0,s1,s2,s3,s4,s5,s6,s7,s8,s9,s10,s11,s12,s13,s14⟩
           go_simp
           with_reducible rfl
          rotate_left
          ·simp only [Act.put,lA_,lZ_,lS_,i64_w,i32_w]
           rfl
          refine take_ (i:=13) (N:=some 121) (v:=?_) (a':=?_) laws_FnKeys.calls.b23 rfl rfl (take_ofW HT_.out HW_.out (by kernel_rfl)) (fun _ _ _ h => h) (Or.inl ⟨by rfl,?_⟩) hHeld ?_ ?_
          rotate_left
          ·rintro w' ⟨s0,s1,s2,s3,s4,s5,s6,s7,s8,s9,s10,s11,s12,s13,s14⟩
           go_simp
           with_reducible rfl
          rotate_left
          ·simp only [Act.put,lA_,lZ_,lS_,i64_w,i32_w]
           rfl
          refine pure_ (i:=14) (N:=some 122) (v:=?_) (a':=?_) laws_FnKeys.calls.b25 rfl rfl (any_of HT_.out (by kernel_rfl)) (fun _ _ _ h => h) (Or.inl ⟨by rfl,?_⟩) ?_ ?_
          rotate_left
          ·intro w'
           go_simp
           with_reducible rfl
          rotate_left
          ·simp only [Act.put,lA_,lZ_,lS_,i64_w,i32_w]
           rfl
          refine pure_ (i:=15) (N:=some 123) (v:=?_) (a':=?_) laws_FnKeys.calls.b28 rfl rfl (any_of HT_.out (by kernel_rfl)) (fun _ _ _ h => h) (Or.inl ⟨by rfl,?_⟩) ?_ ?_
          rotate_left
          ·intro w'
           go_simp
           with_reducible rfl
          rotate_left
          ·simp only [Act.put,lA_,lZ_,lS_,i64_w,i32_w]
           rfl
          refine pure_ (i:=16) (N:=some 124) (v:=?_) (a':=?_) laws_FnKeys.calls.b30 rfl rfl (any_of HT_.out (by kernel_rfl)) (fun _ _ _ h => h) (Or.inl ⟨by rfl,?_⟩) ?_ ?_
          rotate_left
          ·intro w'
           go_simp
           with_reducible rfl
          rotate_left
          ·simp only [Act.put,lA_,lZ_,lS_,i64_w,i32_w]
           rfl
          refine pure_ (i:=17) (N:=some 125) (v:=?_) (a':=?_) laws_FnKeys.calls.b32 rfl rfl (any_of HT_.out (by kernel_rfl)) (fun _ _ _ h => h) (Or.inl ⟨by rfl,?_⟩) ?_ ?_
          rotate_left
          ·intro w'
           go_simp
           with_reducible rfl
          rotate_left
          ·simp only [Act.put,lA_,lZ_,lS_,i64_w,i32_w]
           rfl
          refine pure_ (i:=20) (N:=some 128) (v:=?_) (a':=?_) laws_FnKeys.calls.b33 rfl rfl (any_of HT_.out (by kernel_rfl)) (fun _ _ _ h => h) (Or.inl ⟨by rfl,?_⟩) ?_ ?_
          rotate_left
          ·intro w'
           go_simp
           with_reducible rfl
          rotate_left
          ·simp only [Act.put,lA_,lZ_,lS_,i64_w,i32_w]
           rfl
          refine take_ (i:=18) (N:=some 126) (v:=?_) (a':=?_) laws_FnKeys.calls.b35 rfl rfl (take_ofW HT_.out HW_.out (by kernel_rfl)) (fun _ _ _ h => h) (Or.inl ⟨by rfl,?_⟩) hHeld ?_ ?_
          rotate_left
          ·rintro w' ⟨s0,s1,s2,s3,s4,s5,s6,s7,s8,s9,s10,s11,s12,s13,s14⟩
           go_simp
           with_reducible rfl
          rotate_left
          ·simp only [Act.put,lA_,lZ_,lS_,i64_w,i32_w]
           rfl
          refine pure_ (i:=19) (N:=some 127) (v:=?_) (a':=?_) laws_FnKeys.calls.b36 rfl rfl (any_of HT_.out (by kernel_rfl)) (fun _ _ _ h => h) (Or.inl ⟨by rfl,?_⟩) ?_ ?_
          rotate_left
          ·intro w'
           go_simp
           with_reducible rfl
          rotate_left
          ·simp only [Act.put,lA_,lZ_,lS_,i64_w,i32_w]
           rfl
          refine take_ (i:=21) (N:=some 129) (v:=?_) (a':=?_) laws_FnKeys.calls.b37 rfl rfl (take_ofW HT_.out HW_.out (by kernel_rfl)) (fun _ _ _ h => h) (Or.inl ⟨by rfl,?_⟩) hHeld ?_ ?_
          rotate_left
          ·rintro w' ⟨s0,s1,s2,s3,s4,s5,s6,s7,s8,s9,s10,s11,s12,s13,s14⟩
           go_simp
           with_reducible rfl
          rotate_left
          ·simp only [Act.put,lA_,lZ_,lS_,i64_w,i32_w]
           rfl
          refine pure_ (i:=22) (N:=some 130) (v:=?_) (a':=?_) laws_FnKeys.calls.b38 rfl rfl (any_of HT_.out (by kernel_rfl)) (fun _ _ _ h => h) (Or.inl ⟨by rfl,?_⟩) ?_ ?_
          rotate_left
          ·intro w'
           go_simp
           with_reducible rfl
          rotate_left
          ·simp only [Act.put,lA_,lZ_,lS_,i64_w,i32_w]
           rfl
          refine pure_ (i:=23) (N:=some 131) (v:=?_) (a':=?_) laws_FnKeys.calls.b39 rfl rfl (any_of HT_.out (by kernel_rfl)) (fun _ _ _ h => h) (Or.inl ⟨by rfl,?_⟩) ?_ ?_
          rotate_left
          ·intro w'
           go_simp
           with_reducible rfl
          rotate_left
          ·simp only [Act.put,lA_,lZ_,lS_,i64_w,i32_w]
           rfl
          refine pure_ (i:=24) (N:=some 132) (v:=?_) (a':=?_) laws_FnKeys.calls.b40 rfl rfl (any_of HT_.out (by kernel_rfl)) (fun _ _ _ h => h) (Or.inl ⟨by rfl,?_⟩) ?_ ?_
          rotate_left
          ·intro w'
           go_simp
           with_reducible rfl
          rotate_left
          ·simp only [Act.put,lA_,lZ_,lS_,i64_w,i32_w]
           rfl
          refine pure_ (i:=25) (N:=some 133) (v:=?_) (a':=?_) laws_FnKeys.calls.b41 rfl rfl (any_of HT_.out (by kernel_rfl)) (fun _ _ _ h => h) (Or.inl ⟨by rfl,?_⟩) ?_ ?_
          rotate_left
          ·intro w'
           go_simp
           with_reducible rfl
          rotate_left
          ·simp only [Act.put,lA_,lZ_,lS_,i64_w,i32_w]
           rfl
          refine pure_ (i:=26) (N:=some 134) (v:=?_) (a':=?_) laws_FnKeys.calls.b42 rfl rfl (any_of HT_.out (by kernel_rfl)) (fun _ _ _ h => h) (Or.inl ⟨by rfl,?_⟩) ?_ ?_
          rotate_left
          ·intro w'
           go_simp
           with_reducible rfl
          rotate_left
          ·simp only [Act.put,lA_,lZ_,lS_,i64_w,i32_w]
           rfl
          refine pure_ (i:=27) (N:=some 135) (v:=?_) (a':=?_) laws_FnKeys.calls.b43 rfl rfl (any_of HT_.out (by kernel_rfl)) (fun _ _ _ h => h) (Or.inl ⟨by rfl,?_⟩) ?_ ?_
          rotate_left
          ·intro w'
           go_simp
           with_reducible rfl
          rotate_left
          ·simp only [Act.put,lA_,lZ_,lS_,i64_w,i32_w]
           rfl
          refine pure_ (i:=29) (N:=some 137) (v:=?_) (a':=?_) laws_FnKeys.calls.b44 rfl rfl (any_of HT_.out (by kernel_rfl)) (fun _ _ _ h => h) (Or.inl ⟨by rfl,?_⟩) ?_ ?_
          rotate_left
          ·intro w'
           go_simp
           with_reducible rfl
          rotate_left
          ·simp only [Act.put,lA_,lZ_,lS_,i64_w,i32_w]
           rfl
          refine pure_ (i:=30) (N:=some 138) (v:=?_) (a':=?_) laws_FnKeys.calls.b45 rfl rfl (any_of HT_.out (by kernel_rfl)) (fun _ _ _ h => h) (Or.inl ⟨by rfl,?_⟩) ?_ ?_
          rotate_left
          ·intro w'
           go_simp
           with_reducible rfl
          rotate_left
          ·simp only [Act.put,lA_,lZ_,lS_,i64_w,i32_w]
           rfl
          refine take_ (i:=28) (N:=some 136) (v:=?_) (a':=?_) laws_FnKeys.calls.b46 rfl rfl (take_ofW HT_.out HW_.out (by kernel_rfl)) (fun _ _ _ h => h) (Or.inl ⟨by rfl,?_⟩) hHeld ?_ ?_
          rotate_left
          ·rintro w' ⟨s0,s1,s2,s3,s4,s5,s6,s7,s8,s9,s10,s11,s12,s13,s14⟩
           go_simp
           with_reducible rfl
          rotate_left
          ·simp only [Act.put,lA_,lZ_,lS_,i64_w,i32_w]
           rfl
          refine take_ (i:=31) (N:=some 139) (v:=?_) (a':=?_) laws_FnKeys.calls.b47 rfl rfl (take_ofW HT_.out HW_.out (by kernel_rfl)) (fun _ _ _ h => h) (Or.inl ⟨by rfl,?_⟩) hHeld ?_ ?_
          rotate_left
          ·rintro w' ⟨s0,s1,s2,s3,s4,s5,s6,s7,s8,s9,s10,s11,s12,s13,s14⟩
           go_simp
           with_reducible rfl
          rotate_left
          ·simp only [Act.put,lA_,lZ_,lS_,i64_w,i32_w]
           rfl
          refine pure_ (i:=32) (N:=some 140) (v:=?_) (a':=?_) laws_FnKeys.calls.b48 rfl rfl (any_of HT_.out (by kernel_rfl)) (fun _ _ _ h => h) (Or.inl ⟨by rfl,?_⟩) ?_ ?_
          rotate_left
          ·intro w'
           go_simp
           with_reducible rfl
          rotate_left
          ·simp only [Act.put,lA_,lZ_,lS_,i64_w,i32_w]
           rfl
          refine pure_ (i:=33) (N:=some 141) (v:=?_) (a':=?_) laws_FnKeys.calls.b49 rfl rfl (any_of HT_.out (by kernel_rfl)) (fun _ _ _ h => h) (Or.inl ⟨by rfl,?_⟩) ?_ ?_
          rotate_left
          ·intro w'
           go_simp
           with_reducible rfl
          rotate_left
          ·simp only [Act.put,lA_,lZ_,lS_,i64_w,i32_w]
           rfl
          refine pure_ (i:=34) (N:=some 142) (v:=?_) (a':=?_) laws_FnKeys.calls.b50 rfl rfl (any_of HT_.out (by kernel_rfl)) (fun _ _ _ h => h) (Or.inl ⟨by rfl,?_⟩) ?_ ?_
          rotate_left
          ·intro w'
           go_simp
           with_reducible rfl
          rotate_left
          ·simp only [Act.put,lA_,lZ_,lS_,i64_w,i32_w]
           rfl
          refine pure_ (i:=35) (N:=some 143) (v:=?_) (a':=?_) laws_FnKeys.calls.b51 rfl rfl (any_of HT_.out (by kernel_rfl)) (fun _ _ _ h => h) (Or.inl ⟨by rfl,?_⟩) ?_ ?_
          rotate_left
          ·intro w'
           go_simp
           with_reducible rfl
          rotate_left
          ·simp only [Act.put,lA_,lZ_,lS_,i64_w,i32_w]
           rfl
          refine pure_ (i:=36) (N:=some 144) (v:=?_) (a':=?_) laws_FnKeys.calls.b52 rfl rfl (any_of HT_.out (by kernel_rfl)) (fun _ _ _ h => h) (Or.inl ⟨by rfl,?_⟩) ?_ ?_
          rotate_left
          ·intro w'
           go_simp
           with_reducible rfl
          rotate_left
          ·simp only [Act.put,lA_,lZ_,lS_,i64_w,i32_w]
           rfl
          refine pure_ (i:=38) (N:=some 146) (v:=?_) (a':=?_) laws_FnKeys.calls.b53 rfl rfl (any_of HT_.out (by kernel_rfl)) (fun _ _ _ h => h) (Or.inl ⟨by rfl,?_⟩) ?_ ?_
          rotate_left
          ·intro w'
           go_simp
           with_reducible rfl
          rotate_left
          ·simp only [Act.put,lA_,lZ_,lS_,i64_w,i32_w]
           rfl
          refine pure_ (i:=39) (N:=some 147) (v:=?_) (a':=?_) laws_FnKeys.calls.b54 rfl rfl (any_of HT_.out (by kernel_rfl)) (fun _ _ _ h => h) (Or.inl ⟨by rfl,?_⟩) ?_ ?_
          rotate_left
          ·intro w'
           go_simp
           with_reducible rfl
          rotate_left
          ·simp only [Act.put,lA_,lZ_,lS_,i64_w,i32_w]
           rfl
          refine take_ (i:=37) (N:=some 145) (v:=?_) (a':=?_) laws_FnKeys.calls.b55 rfl rfl (take_ofW HT_.out HW_.out (by kernel_rfl)) (fun _ _ _ h => h) (Or.inl ⟨by rfl,?_⟩) hHeld ?_ ?_
          rotate_left
          ·rintro w' ⟨s0,s1,s2,s3,s4,s5,s6,s7,s8,s9,s10,s11,s12,s13,s14⟩
           go_simp
           with_reducible rfl
          rotate_left
          ·simp only [Act.put,lA_,lZ_,lS_,i64_w,i32_w]
           rfl
          refine take_ (i:=40) (N:=some 148) (v:=?_) (a':=?_) laws_FnKeys.calls.b56 rfl rfl (take_ofW HT_.out HW_.out (by kernel_rfl)) (fun _ _ _ h => h) (Or.inl ⟨by rfl,?_⟩) hHeld ?_ ?_
          rotate_left
          ·rintro w' ⟨s0,s1,s2,s3,s4,s5,s6,s7,s8,s9,s10,s11,s12,s13,s14⟩
           go_simp
           with_reducible rfl
          rotate_left
          ·simp only [Act.put,lA_,lZ_,lS_,i64_w,i32_w]
           rfl
          refine pure_ (i:=41) (N:=some 149) (v:=?_) (a':=?_) laws_FnKeys.calls.b57 rfl rfl (any_of HT_.out (by kernel_rfl)) (fun _ _ _ h => h) (Or.inl ⟨by rfl,?_⟩) ?_ ?_
          rotate_left
          ·intro w'
           go_simp
           with_reducible rfl
          rotate_left
          ·simp only [Act.put,lA_,lZ_,lS_,i64_w,i32_w]
           rfl
          refine pure_ (i:=42) (N:=some 150) (v:=?_) (a':=?_) laws_FnKeys.calls.b58 rfl rfl (any_of HT_.out (by kernel_rfl)) (fun _ _ _ h => h) (Or.inl ⟨by rfl,?_⟩) ?_ ?_
          rotate_left
          ·intro w'
           go_simp
           with_reducible rfl
          rotate_left
          ·simp only [Act.put,lA_,lZ_,lS_,i64_w,i32_w]
           rfl
          refine pure_ (i:=43) (N:=some 151) (v:=?_) (a':=?_) laws_FnKeys.calls.b59 rfl rfl (any_of HT_.out (by kernel_rfl)) (fun _ _ _ h => h) (Or.inl ⟨by rfl,?_⟩) ?_ ?_
          rotate_left
          ·intro w'
           go_simp
           with_reducible rfl
          rotate_left
          ·simp only [Act.put,lA_,lZ_,lS_,i64_w,i32_w]
           rfl
          refine pure_ (i:=44) (N:=some 152) (v:=?_) (a':=?_) laws_FnKeys.calls.b60 rfl rfl (any_of HT_.out (by kernel_rfl)) (fun _ _ _ h => h) (Or.inl ⟨by rfl,?_⟩) ?_ ?_
          rotate_left
          ·intro w'
           go_simp
           with_reducible rfl
          rotate_left
          ·simp only [Act.put,lA_,lZ_,lS_,i64_w,i32_w]
           rfl
          refine pure_ (i:=45) (N:=some 153) (v:=?_) (a':=?_) laws_FnKeys.calls.b61 rfl rfl (any_of HT_.out (by kernel_rfl)) (fun _ _ _ h => h) (Or.inl ⟨by rfl,?_⟩) ?_ ?_
          rotate_left
          ·intro w'
           go_simp
           with_reducible rfl
          rotate_left
          ·simp only [Act.put,lA_,lZ_,lS_,i64_w,i32_w]
           rfl
          refine pure_ (i:=46) (N:=some 154) (v:=?_) (a':=?_) laws_FnKeys.calls.b62 rfl rfl (any_of HT_.out (by kernel_rfl)) (fun _ _ _ h => h) (Or.inl ⟨by rfl,?_⟩) ?_ ?_
          rotate_left
          ·intro w'
           go_simp
           with_reducible rfl
          rotate_left
          ·simp only [Act.put,lA_,lZ_,lS_,i64_w,i32_w]
           rfl
          refine pure_ (i:=47) (N:=some 155) (v:=?_) (a':=?_) laws_FnKeys.calls.b63 rfl rfl (any_of HT_.out (by kernel_rfl)) (fun _ _ _ h => h) (Or.inl ⟨by rfl,?_⟩) ?_ ?_
          rotate_left
          ·intro w'
           go_simp
           with_reducible rfl
          rotate_left
          ·simp only [Act.put,lA_,lZ_,lS_,i64_w,i32_w]
           rfl
          refine pure_ (i:=49) (N:=some 157) (v:=?_) (a':=?_) laws_FnKeys.calls.b64 rfl rfl (any_of HT_.out (by kernel_rfl)) (fun _ _ _ h => h) (Or.inl ⟨by rfl,?_⟩) ?_ ?_
          rotate_left
          ·intro w'
           go_simp
           with_reducible rfl
          rotate_left
          ·simp only [Act.put,lA_,lZ_,lS_,i64_w,i32_w]
           rfl
          refine pure_ (i:=50) (N:=some 158) (v:=?_) (a':=?_) laws_FnKeys.calls.b65 rfl rfl (any_of HT_.out (by kernel_rfl)) (fun _ _ _ h => h) (Or.inl ⟨by rfl,?_⟩) ?_ ?_
          rotate_left
          ·intro w'
           go_simp
           with_reducible rfl
          rotate_left
          ·simp only [Act.put,lA_,lZ_,lS_,i64_w,i32_w]
           rfl
          refine pure_ (i:=51) (N:=some 159) (v:=?_) (a':=?_) laws_FnKeys.calls.b66 rfl rfl (any_of HT_.out (by kernel_rfl)) (fun _ _ _ h => h) (Or.inl ⟨by rfl,?_⟩) ?_ ?_
          rotate_left
          ·intro w'
           go_simp
           with_reducible rfl
          rotate_left
          ·simp only [Act.put,lA_,lZ_,lS_,i64_w,i32_w]
           rfl
          refine take_ (i:=48) (N:=some 156) (v:=?_) (a':=?_) laws_FnKeys.calls.b67 rfl rfl (take_ofW HT_.out HW_.out (by kernel_rfl)) (fun _ _ _ h => h) (Or.inl ⟨by rfl,?_⟩) hHeld ?_ ?_
          rotate_left
          ·rintro w' ⟨s0,s1,s2,s3,s4,s5,s6,s7,s8,s9,s10,s11,s12,s13,s14⟩
           go_simp
           with_reducible rfl
          rotate_left
          ·simp only [Act.put,lA_,lZ_,lS_,i64_w,i32_w]
           rfl
          refine take_ (i:=52) (N:=some 160) (v:=?_) (a':=?_) laws_FnKeys.calls.b68 rfl rfl (take_ofW HT_.out HW_.out (by kernel_rfl)) (fun _ _ _ h => h) (Or.inl ⟨by rfl,?_⟩) hHeld ?_ ?_
          rotate_left
          ·rintro w' ⟨s0,s1,s2,s3,s4,s5,s6,s7,s8,s9,s10,s11,s12,s13,s14⟩
           go_simp
           with_reducible rfl
          rotate_left
          ·simp only [Act.put,lA_,lZ_,lS_,i64_w,i32_w]
           rfl
          refine one_ (i:=53) (N:=some 161) laws_FnKeys.calls.b69 rfl rfl (one_of HT_.out (by kernel_rfl)) (by decide) (fun K hK => ?_)
          refine goes_ Try.func14 (by kernel_rfl) rfl #[.slice ac t378.length ad,.slice cd x13_11.length ce,.int .i64 t362] (by rfl) rfl rfl (by (try simp only [List.map_toArray,List.map_cons,List.map_nil]);first | done | rfl | (simp only [List.length_drop,List.length_take];rfl)) ?_
          with_reducible refine (impl_IsSecret.calls kj40 _ _ t378 _ _ x13_11 t362 false _ ?side1 ?side2 ?side3 ?side4 cb.out).mono ?_
          (case side1 => exact Rc_ a4)
          (case side2 => exact (Kd.R_reads' a4.out).2.1)
          (case side3 => exact Rc_ aa)
          (case side4 => exact (Kd.R_reads' aa.out).2.1)
          rintro e w73 ⟨rfl,hb⟩
          refine ⟨_,rfl,?_⟩
          replace aa:=Z_ (Kd.R_below (Rk_ aa) hb)
          replace a5:=Z_ (Kd.R_below (Rk_ a5) hb)
          replace a4:=Z_ (Kd.R_below (Rk_ a4) hb)
          replace a8:=Z_ (Kd.R_below (Rk_ a8) hb)
          replace a1:=Z_ (bB_ (g:=a6) (o:=.cells #[.int .i64 t359,.int .i64 t360,.int .i64 t361,.int .i64 t362,.int .i64 t363,.slice ai t364.length ah] 30 (0,0)) (Bk_ a1) hb)
          replace a2:=Z_ (bB_ (g:=a7) (o:=.cells #[.int .i64 t376,.int .i64 t377,.slice ac t378.length ad] 33 (0,0)) (Bk_ a2) hb)
          replace a0:=Z_ (bB_ (g:=a9) (o:=.cells #[.int .i64 t388,.int .i64 t389,.int .i64 t390,.int .i64 t391,.int .i64 t392,.slice al t393.length am] 30 (0,0)) (Bk_ a0) hb)
          replace HB:=Z_ (lP_ Lb_ hb)
          (try clear hb)
          (try clear hb2)
          (try clear hk)
          (try clear hi)
          refine hK.out _ _ ⟨(blk_cell a1.out 0).trans rfl,(blk_cell a1.out 1).trans rfl,(blk_cell a1.out 2).trans rfl,(blk_cell a1.out 3).trans rfl,(blk_cell a1.out 4).trans rfl,(blk_cell a1.out 5).trans rfl,(blk_cell a0.out 0).trans rfl,(blk_cell a0.out 1).trans rfl,(blk_cell a0.out 2).trans rfl,(blk_cell a0.out 3).trans rfl,(blk_cell a0.out 4).trans rfl,(blk_cell a0.out 5).trans rfl,(blk_cell a2.out 0).trans rfl,(blk_cell a2.out 1).trans rfl,(blk_cell a2.out 2).trans rfl⟩ (fun hHeld => ?_)
          clear hK K
          refine norm_ (a':=?_) ?_ ?_
          rotate_left
          ·show Act.put _ (some 161) _ = _
           simp only [Act.put,lA_,lZ_,lS_,i64_w,i32_w]
           rfl
          refine pure_ (i:=54) (N:=some 162) (v:=?_) (a':=?_) laws_FnKeys.calls.b70 rfl rfl (any_of HT_.out (by kernel_rfl)) (fun _ _ _ h => h) (Or.inl ⟨by rfl,?_⟩) ?_ ?_
          rotate_left
          ·intro w'
           go_simp
           with_reducible rfl
          rotate_left
          ·simp only [Act.put,lA_,lZ_,lS_,i64_w,i32_w]
           rfl
          refine pure_ (i:=55) (N:=some 163) (v:=?_) (a':=?_) laws_FnKeys.calls.b71 rfl rfl (any_of HT_.out (by kernel_rfl)) (fun _ _ _ h => h) (Or.inl ⟨by rfl,?_⟩) ?_ ?_
          rotate_left
          ·intro w'
           go_simp
           with_reducible rfl
          rotate_left
          ·simp only [Act.put,lA_,lZ_,lS_,i64_w,i32_w]
           rfl
          refine pure_ (i:=56) (N:=some 164) (v:=?_) (a':=?_) laws_FnKeys.calls.b72 rfl rfl (any_of HT_.out (by kernel_rfl)) (fun _ _ _ h => h) (Or.inl ⟨by rfl,?_⟩) ?_ ?_
          rotate_left
          ·intro w'
           go_simp
           with_reducible rfl
          rotate_left
          ·simp only [Act.put,lA_,lZ_,lS_,i64_w,i32_w]
           rfl
          refine pure_ (i:=58) (N:=some 166) (v:=?_) (a':=?_) laws_FnKeys.calls.b73 rfl rfl (any_of HT_.out (by kernel_rfl)) (fun _ _ _ h => h) (Or.inl ⟨by rfl,?_⟩) ?_ ?_
          rotate_left
          ·intro w'
           go_simp
           with_reducible rfl
          rotate_left
          ·simp only [Act.put,lA_,lZ_,lS_,i64_w,i32_w]
           rfl
          refine pure_ (i:=59) (N:=some 167) (v:=?_) (a':=?_) laws_FnKeys.calls.b74 rfl rfl (any_of HT_.out (by kernel_rfl)) (fun _ _ _ h => h) (Or.inl ⟨by rfl,?_⟩) ?_ ?_
          rotate_left
          ·intro w'
           go_simp
           with_reducible rfl
          rotate_left
          ·simp only [Act.put,lA_,lZ_,lS_,i64_w,i32_w]
           rfl
          refine pure_ (i:=60) (N:=some 168) (v:=?_) (a':=?_) laws_FnKeys.calls.b75 rfl rfl (any_of HT_.out (by kernel_rfl)) (fun _ _ _ h => h) (Or.inl ⟨by rfl,?_⟩) ?_ ?_
          rotate_left
          ·intro w'
           go_simp
           with_reducible rfl
          rotate_left
          ·simp only [Act.put,lA_,lZ_,lS_,i64_w,i32_w]
           rfl
          refine take_ (i:=57) (N:=some 165) (v:=?_) (a':=?_) laws_FnKeys.calls.b79 rfl rfl (take_ofW HT_.out HW_.out (by kernel_rfl)) (fun _ _ _ h => h) (Or.inl ⟨by rfl,?_⟩) hHeld ?_ ?_
          rotate_left
          ·rintro w' ⟨s0,s1,s2,s3,s4,s5,s6,s7,s8,s9,s10,s11,s12,s13,s14⟩
           go_simp
           with_reducible rfl
          rotate_left
          ·simp only [Act.put,lA_,lZ_,lS_,i64_w,i32_w]
           rfl
          refine take_ (i:=61) (N:=some 169) (v:=?_) (a':=?_) laws_FnKeys.calls.b80 rfl rfl (take_ofW HT_.out HW_.out (by kernel_rfl)) (fun _ _ _ h => h) (Or.inl ⟨by rfl,?_⟩) hHeld ?_ ?_
          rotate_left
          ·rintro w' ⟨s0,s1,s2,s3,s4,s5,s6,s7,s8,s9,s10,s11,s12,s13,s14⟩
           go_simp
           with_reducible rfl
          rotate_left
          ·simp only [Act.put,lA_,lZ_,lS_,i64_w,i32_w]
           rfl
          refine one_ (i:=62) (N:=some 170) laws_FnKeys.calls.b81 rfl rfl (one_of HT_.out (by kernel_rfl)) (by decide) (fun K hK => ?_)
          refine goes_ Try.func12 (by kernel_rfl) rfl #[.slice ac t378.length ad,.slice cd x13_11.length ce,.int .i64 t360] (by rfl) rfl rfl (by (try simp only [List.map_toArray,List.map_cons,List.map_nil]);first | done | rfl | (simp only [List.length_drop,List.length_take];rfl)) ?_
          with_reducible refine (impl_Derives.calls kj40 _ _ t378 _ _ x13_11 t360 true _ ?side1 ?side2 ?side3 ?side4 cr.out).mono ?_
          (case side1 => exact Rc_ a4)
          (case side2 => exact (Kd.R_reads' a4.out).2.1)
          (case side3 => exact Rc_ aa)
          (case side4 => exact (Kd.R_reads' aa.out).2.1)
          rintro e w74 ⟨rfl,hb⟩
          refine ⟨_,rfl,?_⟩
          replace aa:=Z_ (Kd.R_below (Rk_ aa) hb)
          replace a5:=Z_ (Kd.R_below (Rk_ a5) hb)
          replace a4:=Z_ (Kd.R_below (Rk_ a4) hb)
          replace a8:=Z_ (Kd.R_below (Rk_ a8) hb)
          replace a1:=Z_ (bB_ (g:=a6) (o:=.cells #[.int .i64 t359,.int .i64 t360,.int .i64 t361,.int .i64 t362,.int .i64 t363,.slice ai t364.length ah] 30 (0,0)) (Bk_ a1) hb)
          replace a2:=Z_ (bB_ (g:=a7) (o:=.cells #[.int .i64 t376,.int .i64 t377,.slice ac t378.length ad] 33 (0,0)) (Bk_ a2) hb)
          replace a0:=Z_ (bB_ (g:=a9) (o:=.cells #[.int .i64 t388,.int .i64 t389,.int .i64 t390,.int .i64 t391,.int .i64 t392,.slice al t393.length am] 30 (0,0)) (Bk_ a0) hb)
          replace HB:=Z_ (lP_ Lb_ hb)
          (try clear hb)
          (try clear hb2)
          (try clear hk)
          (try clear hi)
          refine hK.out _ _ ⟨(blk_cell a1.out 0).trans rfl,(blk_cell a1.out 1).trans rfl,(blk_cell a1.out 2).trans rfl,(blk_cell a1.out 3).trans rfl,(blk_cell a1.out 4).trans rfl,(blk_cell a1.out 5).trans rfl,(blk_cell a0.out 0).trans rfl,(blk_cell a0.out 1).trans rfl,(blk_cell a0.out 2).trans rfl,(blk_cell a0.out 3).trans rfl,(blk_cell a0.out 4).trans rfl,(blk_cell a0.out 5).trans rfl,(blk_cell a2.out 0).trans rfl,(blk_cell a2.out 1).trans rfl,(blk_cell a2.out 2).trans rfl⟩ (fun hHeld => ?_)
          clear hK K
          refine norm_ (a':=?_) ?_ ?_
          rotate_left
          ·show Act.put _ (some 170) _ = _
           simp only [Act.put,lA_,lZ_,lS_,i64_w,i32_w]
           rfl
          refine pure_ (i:=63) (N:=some 171) (v:=?_) (a':=?_) laws_FnKeys.calls.b82 rfl rfl (any_of HT_.out (by kernel_rfl)) (fun _ _ _ h => h) (Or.inl ⟨by rfl,?_⟩) ?_ ?_
          rotate_left
          ·intro w'
           go_simp
           with_reducible rfl
          rotate_left
          ·simp only [Act.put,lA_,lZ_,lS_,i64_w,i32_w]
           rfl
          refine pure_ (i:=64) (N:=some 172) (v:=?_) (a':=?_) laws_FnKeys.calls.b83 rfl rfl (any_of HT_.out (by kernel_rfl)) (fun _ _ _ h => h) (Or.inl ⟨by rfl,?_⟩) ?_ ?_
          rotate_left
          ·intro w'
           go_simp
           with_reducible rfl
          rotate_left
          ·simp only [Act.put,lA_,lZ_,lS_,i64_w,i32_w]
           rfl
          refine pure_ (i:=65) (N:=some 173) (v:=undef) (a':=?_) laws_FnKeys.calls.b84 rfl rfl (any_of HT_.out (by kernel_rfl)) (fun _ _ _ h => h) (Or.inr ⟨by rfl,rfl⟩) ?_ ?_
          rotate_left
          ·simp only [Act.put,lA_,lZ_,lS_,i64_w,i32_w]
           rfl
          refine pure_ (i:=66) (N:=some 174) (v:=undef) (a':=?_) laws_FnKeys.calls.b85 rfl rfl (any_of HT_.out (by kernel_rfl)) (fun _ _ _ h => h) (Or.inr ⟨by rfl,rfl⟩) ?_ ?_
          rotate_left
          ·simp only [Act.put,lA_,lZ_,lS_,i64_w,i32_w]
           rfl
          refine pure_ (i:=67) (N:=some 175) (v:=undef) (a':=?_) laws_FnKeys.calls.b86 rfl rfl (any_of HT_.out (by kernel_rfl)) (fun _ _ _ h => h) (Or.inr ⟨by rfl,rfl⟩) ?_ ?_
          rotate_left
          ·simp only [Act.put,lA_,lZ_,lS_,i64_w,i32_w]
           rfl
          refine pure_ (i:=68) (N:=some 176) (v:=undef) (a':=?_) laws_FnKeys.calls.b87 rfl rfl (any_of HT_.out (by kernel_rfl)) (fun _ _ _ h => h) (Or.inr ⟨by rfl,rfl⟩) ?_ ?_
          rotate_left
          ·simp only [Act.put,lA_,lZ_,lS_,i64_w,i32_w]
           rfl
          refine pure_ (i:=69) (N:=some 177) (v:=undef) (a':=?_) laws_FnKeys.calls.b88 rfl rfl (any_of HT_.out (by kernel_rfl)) (fun _ _ _ h => h) (Or.inr ⟨by rfl,rfl⟩) ?_ ?_
          rotate_left
          ·simp only [Act.put,lA_,lZ_,lS_,i64_w,i32_w]
           rfl
          refine pure_ (i:=70) (N:=some 178) (v:=undef) (a':=?_) laws_FnKeys.calls.b89 rfl rfl (any_of HT_.out (by kernel_rfl)) (fun _ _ _ h => h) (Or.inr ⟨by rfl,rfl⟩) ?_ ?_
          rotate_left
          ·simp only [Act.put,lA_,lZ_,lS_,i64_w,i32_w]
           rfl
          refine pure_ (i:=71) (N:=some 179) (v:=undef) (a':=?_) laws_FnKeys.calls.b90 rfl rfl (any_of HT_.out (by kernel_rfl)) (fun _ _ _ h => h) (Or.inr ⟨by rfl,rfl⟩) ?_ ?_
          rotate_left
          ·simp only [Act.put,lA_,lZ_,lS_,i64_w,i32_w]
           rfl
          refine pure_ (i:=72) (N:=some 180) (v:=undef) (a':=?_) laws_FnKeys.calls.b91 rfl rfl (any_of HT_.out (by kernel_rfl)) (fun _ _ _ h => h) (Or.inr ⟨by rfl,rfl⟩) ?_ ?_
          rotate_left
          ·simp only [Act.put,lA_,lZ_,lS_,i64_w,i32_w]
           rfl
          refine pure_ (i:=73) (N:=some 181) (v:=undef) (a':=?_) laws_FnKeys.calls.b92 rfl rfl (any_of HT_.out (by kernel_rfl)) (fun _ _ _ h => h) (Or.inr ⟨by rfl,rfl⟩) ?_ ?_
          rotate_left
          ·simp only [Act.put,lA_,lZ_,lS_,i64_w,i32_w]
           rfl
          refine pure_ (i:=74) (N:=some 182) (v:=?_) (a':=?_) laws_FnKeys.calls.b93 rfl rfl (any_of HT_.out (by kernel_rfl)) (fun _ _ _ h => h) (Or.inl ⟨by rfl,?_⟩) ?_ ?_
          rotate_left
          ·intro w'
           go_simp
           with_reducible rfl
          rotate_left
          ·simp only [Act.put,lA_,lZ_,lS_,i64_w,i32_w]
           rfl
          refine pure_ (i:=75) (N:=some 183) (v:=?_) (a':=?_) laws_FnKeys.calls.b94 rfl rfl (any_of HT_.out (by kernel_rfl)) (fun _ _ _ h => h) (Or.inl ⟨by rfl,?_⟩) ?_ ?_
          rotate_left
          ·intro w'
           go_simp
           with_reducible rfl
          rotate_left
          ·simp only [Act.put,lA_,lZ_,lS_,i64_w,i32_w]
           rfl
          refine pure_ (i:=76) (N:=some 2) (v:=?_) (a':=?_) laws_FnKeys.calls.b95 rfl rfl (any_of HT_.out (by kernel_rfl)) (fun _ _ _ h => h) (Or.inl ⟨by rfl,?_⟩) ?_ ?_
          rotate_left
          ·intro w'
           go_simp
           with_reducible rfl
          rotate_left
          ·simp only [Act.put,lA_,lZ_,lS_,i64_w,i32_w]
           rfl
          refine done_ (done_of HT_.out (by kernel_rfl)) ?_
          try go_wp2
          go_ret
          exact ⟨by first | rfl | (rw [hr_.out];first | done | rfl) | (simp [errW_none,errW_some] <;> rfl) | (simp [*,errW_none,errW_some] <;> rfl),Lb_⟩
        ·as_aux_lemma =>
          replace H:=bS_ H
          obtain ⟨⟨t409,t410⟩,d1,H⟩:=H
          try dsimp only at H
          replace H:=bS_ H
          obtain ⟨t413,d2,H⟩:=H
          have hr_:=Z_ (Option.some.inj H)
          clear H
          try go_wp2
          replace aa:=Z_ (rD_ aa.out)
          replace a5:=Z_ (rD_ a5.out)
          replace a4:=Z_ (rD_ a4.out)
          replace a8:=Z_ (rD_ a8.out)
          replace a1:=Z_ (bD_ a1.out)
          replace a2:=Z_ (bD_ a2.out)
          replace a0:=Z_ (bD_ a0.out)
          replace HB:=Z_ (lD_ HB.out)
          refine start_ (n:=77) (S:=fun w' => w'.cell? ⟨a6,0,none⟩ = some (.int .i64 t359) ∧ w'.cell? ⟨a6,1,none⟩ = some (.int .i64 t360) ∧ w'.cell? ⟨a6,2,none⟩ = some (.int .i64 t361) ∧ w'.cell? ⟨a6,3,none⟩ = some (.int .i64 t362) ∧ w'.cell? ⟨a6,4,none⟩ = some (.int .i64 t363) ∧ w'.cell? ⟨a6,5,none⟩ = some (.slice ai t364.length ah) ∧ w'.cell? ⟨a9,0,none⟩ = some (.int .i64 t388) ∧ w'.cell? ⟨a9,1,none⟩ = some (.int .i64 t389) ∧ w'.cell? ⟨a9,2,none⟩ = some (.int .i64 t390) ∧ w'.cell? ⟨a9,3,none⟩ = some (.int .i64 t391) ∧ w'.cell? ⟨a9,4,none⟩ = some (.int .i64 t392) ∧ w'.cell? ⟨a9,5,none⟩ = some (.slice al t393.length am) ∧ w'.cell? ⟨a7,0,none⟩ = some (.int .i64 t376) ∧ w'.cell? ⟨a7,1,none⟩ = some (.int .i64 t377) ∧ w'.cell? ⟨a7,2,none⟩ = some (.slice ac t378.length ad)) (ds:=[]) laws_FnKeys.calls.b0 (by kernel_rfl) rfl rfl ⟨(blk_cell a1.out 0).trans rfl,(blk_cell a1.out 1).trans rfl,(blk_cell a1.out 2).trans rfl,(blk_cell a1.out 3).trans rfl,(blk_cell a1.out 4).trans rfl,(blk_cell a1.out 5).trans rfl,(blk_cell a0.out 0).trans rfl,(blk_cell a0.out 1).trans rfl,(blk_cell a0.out 2).trans rfl,(blk_cell a0.out 3).trans rfl,(blk_cell a0.out 4).trans rfl,(blk_cell a0.out 5).trans rfl,(blk_cell a2.out 0).trans rfl,(blk_cell a2.out 1).trans rfl,(blk_cell a2.out 2).trans rfl⟩ (fun hHeld => ?_);refine with_tabW laws_FnKeys.tab15 laws_FnKeys.bits15 (fun HT_ HW_ => ?_)
          generalize wc.drew = w77 at aa a5 a4 a8 a1 a2 a0 HB hHeld ⊢
          refine pure_ (i:=0) (N:=some 108) (v:=?_) (a':=?_) laws_FnKeys.calls.b2 rfl rfl (any_of HT_.out (by kernel_rfl)) (fun _ _ _ h => h) (Or.inl ⟨by rfl,?_⟩) ?_ ?_
          rotate_left
          ·intro w'
           go_simp
           with_reducible rfl
          rotate_left
          ·simp only [Act.put,lA_,lZ_,lS_,i64_w,i32_w]
           rfl
          refine take_ (i:=1) (N:=some 109) (v:=?_) (a':=?_) laws_FnKeys.calls.b6 rfl rfl (take_ofW HT_.out HW_.out (by kernel_rfl)) (fun _ _ _ h => h) (Or.inl ⟨by rfl,?_⟩) hHeld ?_ ?_
          rotate_left
          ·rintro w' ⟨s0,s1,s2,s3,s4,s5,s6,s7,s8,s9,s10,s11,s12,s13,s14⟩
           go_simp
           with_reducible rfl
          rotate_left
          ·simp only [Act.put,lA_,lZ_,lS_,i64_w,i32_w]
           rfl
          refine one_ (i:=2) (N:=some 110) laws_FnKeys.calls.b7 rfl rfl (one_of HT_.out (by kernel_rfl)) (by decide) (fun K hK => ?_)
          refine goes_ Try.func13 (by kernel_rfl) rfl #[.slice ai t364.length ah] (by rfl) rfl rfl (by (try simp only [List.map_toArray,List.map_cons,List.map_nil]);first | done | rfl | (simp only [List.length_drop,List.length_take];rfl)) ?_
          with_reducible refine (impl_TermsFault.calls _ _ t364 t406 _ ?side1 ?side2 bs.out).mono ?_
          (case side1 => exact Rc_ a5)
          (case side2 => exact (Kd.R_reads' a5.out).2.1)
          rintro e w78 ⟨rfl,hb⟩
          refine ⟨_,rfl,?_⟩
          replace aa:=Z_ (Kd.R_below (Rk_ aa) hb)
          replace a5:=Z_ (Kd.R_below (Rk_ a5) hb)
          replace a4:=Z_ (Kd.R_below (Rk_ a4) hb)
          replace a8:=Z_ (Kd.R_below (Rk_ a8) hb)
          replace a1:=Z_ (bB_ (g:=a6) (o:=.cells #[.int .i64 t359,.int .i64 t360,.int .i64 t361,.int .i64 t362,.int .i64 t363,.slice ai t364.length ah] 30 (0,0)) (Bk_ a1) hb)
          replace a2:=Z_ (bB_ (g:=a7) (o:=.cells #[.int .i64 t376,.int .i64 t377,.slice ac t378.length ad] 33 (0,0)) (Bk_ a2) hb)
          replace a0:=Z_ (bB_ (g:=a9) (o:=.cells #[.int .i64 t388,.int .i64 t389,.int .i64 t390,.int .i64 t391,.int .i64 t392,.slice al t393.length am] 30 (0,0)) (Bk_ a0) hb)
          replace HB:=Z_ (lP_ Lb_ hb)
          (try clear hb)
          (try clear hb2)
          (try clear hk)
          (try clear hi)
          obtain ⟨bp,bq,eo79⟩:=Kd.R_slice aa.out
          (first | subst eo79 | (injection eo79 with f1_ f2_ f3_;have f4_:=f1_.symm;have f5_:=f3_.symm;clear f1_ f2_ f3_;subst f4_;subst f5_))
          refine hK.out _ _ ⟨(blk_cell a1.out 0).trans rfl,(blk_cell a1.out 1).trans rfl,(blk_cell a1.out 2).trans rfl,(blk_cell a1.out 3).trans rfl,(blk_cell a1.out 4).trans rfl,(blk_cell a1.out 5).trans rfl,(blk_cell a0.out 0).trans rfl,(blk_cell a0.out 1).trans rfl,(blk_cell a0.out 2).trans rfl,(blk_cell a0.out 3).trans rfl,(blk_cell a0.out 4).trans rfl,(blk_cell a0.out 5).trans rfl,(blk_cell a2.out 0).trans rfl,(blk_cell a2.out 1).trans rfl,(blk_cell a2.out 2).trans rfl⟩ (fun hHeld => ?_)
          clear hK K
          refine norm_ (a':=?_) ?_ ?_
          rotate_left
          ·show Act.put _ (some 110) _ = _
           simp only [Act.put,lA_,lZ_,lS_,i64_w,i32_w]
           rfl
          refine pure_ (i:=3) (N:=some 111) (v:=?_) (a':=?_) laws_FnKeys.calls.b8 rfl rfl (any_of HT_.out (by kernel_rfl)) (fun _ _ _ h => h) (Or.inl ⟨by rfl,?_⟩) ?_ ?_
          rotate_left
          ·intro w'
           go_simp
           with_reducible rfl
          rotate_left
          ·simp only [Act.put,lA_,lZ_,lS_,i64_w,i32_w]
           rfl
          refine pure_ (i:=4) (N:=some 112) (v:=?_) (a':=?_) laws_FnKeys.calls.b10 rfl rfl (any_of HT_.out (by kernel_rfl)) (fun _ _ _ h => h) (Or.inl ⟨by rfl,?_⟩) ?_ ?_
          rotate_left
          ·intro w'
           go_simp
           with_reducible rfl
          rotate_left
          ·simp only [Act.put,lA_,lZ_,lS_,i64_w,i32_w]
           rfl
          refine pure_ (i:=5) (N:=some 113) (v:=?_) (a':=?_) laws_FnKeys.calls.b12 rfl rfl (any_of HT_.out (by kernel_rfl)) (fun _ _ _ h => h) (Or.inl ⟨by rfl,?_⟩) ?_ ?_
          rotate_left
          ·intro w'
           go_simp
           with_reducible rfl
          rotate_left
          ·simp only [Act.put,lA_,lZ_,lS_,i64_w,i32_w]
           rfl
          refine take_ (i:=6) (N:=some 114) (v:=?_) (a':=?_) laws_FnKeys.calls.b14 rfl rfl (take_ofW HT_.out HW_.out (by kernel_rfl)) (fun _ _ _ h => h) (Or.inl ⟨by rfl,?_⟩) hHeld ?_ ?_
          rotate_left
          ·rintro w' ⟨s0,s1,s2,s3,s4,s5,s6,s7,s8,s9,s10,s11,s12,s13,s14⟩
           go_simp
           with_reducible rfl
          rotate_left
          ·simp only [Act.put,lA_,lZ_,lS_,i64_w,i32_w]
           rfl
          refine pure_ (i:=7) (N:=some 115) (v:=?_) (a':=?_) laws_FnKeys.calls.b16 rfl rfl (any_of HT_.out (by kernel_rfl)) (fun _ _ _ h => h) (Or.inl ⟨by rfl,?_⟩) ?_ ?_
          rotate_left
          ·intro w'
           go_simp
           with_reducible rfl
          rotate_left
          ·simp only [Act.put,lA_,lZ_,lS_,i64_w,i32_w]
           rfl
          refine pure_ (i:=8) (N:=some 116) (v:=?_) (a':=?_) laws_FnKeys.calls.b18 rfl rfl (any_of HT_.out (by kernel_rfl)) (fun _ _ _ h => h) (Or.inl ⟨by rfl,?_⟩) ?_ ?_
          rotate_left
          ·intro w'
           go_simp
           with_reducible rfl
          rotate_left
          ·simp only [Act.put,lA_,lZ_,lS_,i64_w,i32_w]
           rfl
          refine pure_ (i:=9) (N:=some 117) (v:=?_) (a':=?_) laws_FnKeys.calls.b19 rfl rfl (any_of HT_.out (by kernel_rfl)) (fun _ _ _ h => h) (Or.inl ⟨by rfl,?_⟩) ?_ ?_
          rotate_left
          ·intro w'
           go_simp
           with_reducible rfl
          rotate_left
          ·simp only [Act.put,lA_,lZ_,lS_,i64_w,i32_w]
           rfl
          refine pure_ (i:=10) (N:=some 118) (v:=?_) (a':=?_) laws_FnKeys.calls.b20 rfl rfl (any_of HT_.out (by kernel_rfl)) (fun _ _ _ h => h) (Or.inl ⟨by rfl,?_⟩) ?_ ?_
          rotate_left
          ·intro w'
           go_simp
           with_reducible rfl
          rotate_left
          ·simp only [Act.put,lA_,lZ_,lS_,i64_w,i32_w]
           rfl
          refine pure_ (i:=12) (N:=some 120) (v:=?_) (a':=?_) laws_FnKeys.calls.b21 rfl rfl (any_of HT_.out (by kernel_rfl)) (fun _ _ _ h => h) (Or.inl ⟨by rfl,?_⟩) ?_ ?_
          rotate_left
          ·intro w'
           go_simp
           with_reducible rfl
          rotate_left
          ·simp only [Act.put,lA_,lZ_,lS_,i64_w,i32_w]
           rfl
          refine take_ (i:=11) (N:=some 119) (v:=?_) (a':=?_) laws_FnKeys.calls.b22 rfl rfl (take_ofW HT_.out HW_.out (by kernel_rfl)) (fun _ _ _ h => h) (Or.inl ⟨by rfl,?_⟩) hHeld ?_ ?_
          rotate_left
          ·rintro w' ⟨s0,s1,s2,s3,s4,s5,s6,s7,s8,s9,s10,s11,s12,s13,s14⟩
           go_simp
           with_reducible rfl
          rotate_left
          ·simp only [Act.put,lA_,lZ_,lS_,i64_w,i32_w]
           rfl
          refine take_ (i:=13) (N:=some 121) (v:=?_) (a':=?_) laws_FnKeys.calls.b23 rfl rfl (take_ofW HT_.out HW_.out (by kernel_rfl)) (fun _ _ _ h => h) (Or.inl ⟨by rfl,?_⟩) hHeld ?_ ?_
          rotate_left
          ·rintro w' ⟨s0,s1,s2,s3,s4,s5,s6,s7,s8,s9,s10,s11,s12,s13,s14⟩
           go_simp
           with_reducible rfl
          rotate_left
          ·simp only [Act.put,lA_,lZ_,lS_,i64_w,i32_w]
           rfl
          refine pure_ (i:=14) (N:=some 122) (v:=?_) (a':=?_) laws_FnKeys.calls.b25 rfl rfl (any_of HT_.out (by kernel_rfl)) (fun _ _ _ h => h) (Or.inl ⟨by rfl,?_⟩) ?_ ?_
          rotate_left
          ·intro w'
           go_simp
           with_reducible rfl
          rotate_left
          ·simp only [Act.put,lA_,lZ_,lS_,i64_w,i32_w]
           rfl
          refine pure_ (i:=15) (N:=some 123) (v:=?_) (a':=?_) laws_FnKeys.calls.b28 rfl rfl (any_of HT_.out (by kernel_rfl)) (fun _ _ _ h => h) (Or.inl ⟨by rfl,?_⟩) ?_ ?_
          rotate_left
          ·intro w'
           go_simp
           with_reducible rfl
          rotate_left
          ·simp only [Act.put,lA_,lZ_,lS_,i64_w,i32_w]
           rfl
          refine pure_ (i:=16) (N:=some 124) (v:=?_) (a':=?_) laws_FnKeys.calls.b30 rfl rfl (any_of HT_.out (by kernel_rfl)) (fun _ _ _ h => h) (Or.inl ⟨by rfl,?_⟩) ?_ ?_
          rotate_left
          ·intro w'
           go_simp
           with_reducible rfl
          rotate_left
          ·simp only [Act.put,lA_,lZ_,lS_,i64_w,i32_w]
           rfl
          refine pure_ (i:=17) (N:=some 125) (v:=?_) (a':=?_) laws_FnKeys.calls.b32 rfl rfl (any_of HT_.out (by kernel_rfl)) (fun _ _ _ h => h) (Or.inl ⟨by rfl,?_⟩) ?_ ?_
          rotate_left
          ·intro w'
           go_simp
           with_reducible rfl
          rotate_left
          ·simp only [Act.put,lA_,lZ_,lS_,i64_w,i32_w]
           rfl
          refine pure_ (i:=20) (N:=some 128) (v:=?_) (a':=?_) laws_FnKeys.calls.b33 rfl rfl (any_of HT_.out (by kernel_rfl)) (fun _ _ _ h => h) (Or.inl ⟨by rfl,?_⟩) ?_ ?_
          rotate_left
          ·intro w'
           go_simp
           with_reducible rfl
          rotate_left
          ·simp only [Act.put,lA_,lZ_,lS_,i64_w,i32_w]
           rfl
          refine take_ (i:=18) (N:=some 126) (v:=?_) (a':=?_) laws_FnKeys.calls.b35 rfl rfl (take_ofW HT_.out HW_.out (by kernel_rfl)) (fun _ _ _ h => h) (Or.inl ⟨by rfl,?_⟩) hHeld ?_ ?_
          rotate_left
          ·rintro w' ⟨s0,s1,s2,s3,s4,s5,s6,s7,s8,s9,s10,s11,s12,s13,s14⟩
           go_simp
           with_reducible rfl
          rotate_left
          ·simp only [Act.put,lA_,lZ_,lS_,i64_w,i32_w]
           rfl
          refine pure_ (i:=19) (N:=some 127) (v:=?_) (a':=?_) laws_FnKeys.calls.b36 rfl rfl (any_of HT_.out (by kernel_rfl)) (fun _ _ _ h => h) (Or.inl ⟨by rfl,?_⟩) ?_ ?_
          rotate_left
          ·intro w'
           go_simp
           with_reducible rfl
          rotate_left
          ·simp only [Act.put,lA_,lZ_,lS_,i64_w,i32_w]
           rfl
          refine take_ (i:=21) (N:=some 129) (v:=?_) (a':=?_) laws_FnKeys.calls.b37 rfl rfl (take_ofW HT_.out HW_.out (by kernel_rfl)) (fun _ _ _ h => h) (Or.inl ⟨by rfl,?_⟩) hHeld ?_ ?_
          rotate_left
          ·rintro w' ⟨s0,s1,s2,s3,s4,s5,s6,s7,s8,s9,s10,s11,s12,s13,s14⟩
           go_simp
           with_reducible rfl
          rotate_left
          ·simp only [Act.put,lA_,lZ_,lS_,i64_w,i32_w]
           rfl
          refine pure_ (i:=22) (N:=some 130) (v:=?_) (a':=?_) laws_FnKeys.calls.b38 rfl rfl (any_of HT_.out (by kernel_rfl)) (fun _ _ _ h => h) (Or.inl ⟨by rfl,?_⟩) ?_ ?_
          rotate_left
          ·intro w'
           go_simp
           with_reducible rfl
          rotate_left
          ·simp only [Act.put,lA_,lZ_,lS_,i64_w,i32_w]
           rfl
          refine pure_ (i:=23) (N:=some 131) (v:=?_) (a':=?_) laws_FnKeys.calls.b39 rfl rfl (any_of HT_.out (by kernel_rfl)) (fun _ _ _ h => h) (Or.inl ⟨by rfl,?_⟩) ?_ ?_
          rotate_left
          ·intro w'
           go_simp
           with_reducible rfl
          rotate_left
          ·simp only [Act.put,lA_,lZ_,lS_,i64_w,i32_w]
           rfl
          refine pure_ (i:=24) (N:=some 132) (v:=?_) (a':=?_) laws_FnKeys.calls.b40 rfl rfl (any_of HT_.out (by kernel_rfl)) (fun _ _ _ h => h) (Or.inl ⟨by rfl,?_⟩) ?_ ?_
          rotate_left
          ·intro w'
           go_simp
           with_reducible rfl
          rotate_left
          ·simp only [Act.put,lA_,lZ_,lS_,i64_w,i32_w]
           rfl
          refine pure_ (i:=25) (N:=some 133) (v:=?_) (a':=?_) laws_FnKeys.calls.b41 rfl rfl (any_of HT_.out (by kernel_rfl)) (fun _ _ _ h => h) (Or.inl ⟨by rfl,?_⟩) ?_ ?_
          rotate_left
          ·intro w'
           go_simp
           with_reducible rfl
          rotate_left
          ·simp only [Act.put,lA_,lZ_,lS_,i64_w,i32_w]
           rfl
          refine pure_ (i:=26) (N:=some 134) (v:=?_) (a':=?_) laws_FnKeys.calls.b42 rfl rfl (any_of HT_.out (by kernel_rfl)) (fun _ _ _ h => h) (Or.inl ⟨by rfl,?_⟩) ?_ ?_
          rotate_left
          ·intro w'
           go_simp
           with_reducible rfl
          rotate_left
          ·simp only [Act.put,lA_,lZ_,lS_,i64_w,i32_w]
           rfl
          refine pure_ (i:=27) (N:=some 135) (v:=?_) (a':=?_) laws_FnKeys.calls.b43 rfl rfl (any_of HT_.out (by kernel_rfl)) (fun _ _ _ h => h) (Or.inl ⟨by rfl,?_⟩) ?_ ?_
          rotate_left
          ·intro w'
           go_simp
           with_reducible rfl
          rotate_left
          ·simp only [Act.put,lA_,lZ_,lS_,i64_w,i32_w]
           rfl
          refine pure_ (i:=29) (N:=some 137) (v:=?_) (a':=?_) laws_FnKeys.calls.b44 rfl rfl (any_of HT_.out (by kernel_rfl)) (fun _ _ _ h => h) (Or.inl ⟨by rfl,?_⟩) ?_ ?_
          rotate_left
          ·intro w'
           go_simp
           with_reducible rfl
          rotate_left
          ·simp only [Act.put,lA_,lZ_,lS_,i64_w,i32_w]
           rfl
          refine pure_ (i:=30) (N:=some 138) (v:=?_) (a':=?_) laws_FnKeys.calls.b45 rfl rfl (any_of HT_.out (by kernel_rfl)) (fun _ _ _ h => h) (Or.inl ⟨by rfl,?_⟩) ?_ ?_
          rotate_left
          ·intro w'
           go_simp
           with_reducible rfl
          rotate_left
          ·simp only [Act.put,lA_,lZ_,lS_,i64_w,i32_w]
           rfl
          refine take_ (i:=28) (N:=some 136) (v:=?_) (a':=?_) laws_FnKeys.calls.b46 rfl rfl (take_ofW HT_.out HW_.out (by kernel_rfl)) (fun _ _ _ h => h) (Or.inl ⟨by rfl,?_⟩) hHeld ?_ ?_
          rotate_left
          ·rintro w' ⟨s0,s1,s2,s3,s4,s5,s6,s7,s8,s9,s10,s11,s12,s13,s14⟩
           go_simp
           with_reducible rfl
          rotate_left
          ·simp only [Act.put,lA_,lZ_,lS_,i64_w,i32_w]
           rfl
          refine take_ (i:=31) (N:=some 139) (v:=?_) (a':=?_) laws_FnKeys.calls.b47 rfl rfl (take_ofW HT_.out HW_.out (by kernel_rfl)) (fun _ _ _ h => h) (Or.inl ⟨by rfl,?_⟩) hHeld ?_ ?_
          rotate_left
          ·rintro w' ⟨s0,s1,s2,s3,s4,s5,s6,s7,s8,s9,s10,s11,s12,s13,s14⟩
           go_simp
           with_reducible rfl
          rotate_left
          ·simp only [Act.put,lA_,lZ_,lS_,i64_w,i32_w]
           rfl
          refine pure_ (i:=32) (N:=some 140) (v:=?_) (a':=?_) laws_FnKeys.calls.b48 rfl rfl (any_of HT_.out (by kernel_rfl)) (fun _ _ _ h => h) (Or.inl ⟨by rfl,?_⟩) ?_ ?_
          rotate_left
          ·intro w'
           go_simp
           with_reducible rfl
          rotate_left
          ·simp only [Act.put,lA_,lZ_,lS_,i64_w,i32_w]
           rfl
          refine pure_ (i:=33) (N:=some 141) (v:=?_) (a':=?_) laws_FnKeys.calls.b49 rfl rfl (any_of HT_.out (by kernel_rfl)) (fun _ _ _ h => h) (Or.inl ⟨by rfl,?_⟩) ?_ ?_
          rotate_left
          ·intro w'
           go_simp
           with_reducible rfl
          rotate_left
          ·simp only [Act.put,lA_,lZ_,lS_,i64_w,i32_w]
           rfl
          refine pure_ (i:=34) (N:=some 142) (v:=?_) (a':=?_) laws_FnKeys.calls.b50 rfl rfl (any_of HT_.out (by kernel_rfl)) (fun _ _ _ h => h) (Or.inl ⟨by rfl,?_⟩) ?_ ?_
          rotate_left
          ·intro w'
           go_simp
           with_reducible rfl
          rotate_left
          ·simp only [Act.put,lA_,lZ_,lS_,i64_w,i32_w]
           rfl
          refine pure_ (i:=35) (N:=some 143) (v:=?_) (a':=?_) laws_FnKeys.calls.b51 rfl rfl (any_of HT_.out (by kernel_rfl)) (fun _ _ _ h => h) (Or.inl ⟨by rfl,?_⟩) ?_ ?_
          rotate_left
          ·intro w'
           go_simp
           with_reducible rfl
          rotate_left
          ·simp only [Act.put,lA_,lZ_,lS_,i64_w,i32_w]
           rfl
          refine pure_ (i:=36) (N:=some 144) (v:=?_) (a':=?_) laws_FnKeys.calls.b52 rfl rfl (any_of HT_.out (by kernel_rfl)) (fun _ _ _ h => h) (Or.inl ⟨by rfl,?_⟩) ?_ ?_
          rotate_left
          ·intro w'
           go_simp
           with_reducible rfl
          rotate_left
          ·simp only [Act.put,lA_,lZ_,lS_,i64_w,i32_w]
           rfl
          refine pure_ (i:=38) (N:=some 146) (v:=?_) (a':=?_) laws_FnKeys.calls.b53 rfl rfl (any_of HT_.out (by kernel_rfl)) (fun _ _ _ h => h) (Or.inl ⟨by rfl,?_⟩) ?_ ?_
          rotate_left
          ·intro w'
           go_simp
           with_reducible rfl
          rotate_left
          ·simp only [Act.put,lA_,lZ_,lS_,i64_w,i32_w]
           rfl
          refine pure_ (i:=39) (N:=some 147) (v:=?_) (a':=?_) laws_FnKeys.calls.b54 rfl rfl (any_of HT_.out (by kernel_rfl)) (fun _ _ _ h => h) (Or.inl ⟨by rfl,?_⟩) ?_ ?_
          rotate_left
          ·intro w'
           go_simp
           with_reducible rfl
          rotate_left
          ·simp only [Act.put,lA_,lZ_,lS_,i64_w,i32_w]
           rfl
          refine take_ (i:=37) (N:=some 145) (v:=?_) (a':=?_) laws_FnKeys.calls.b55 rfl rfl (take_ofW HT_.out HW_.out (by kernel_rfl)) (fun _ _ _ h => h) (Or.inl ⟨by rfl,?_⟩) hHeld ?_ ?_
          rotate_left
          ·rintro w' ⟨s0,s1,s2,s3,s4,s5,s6,s7,s8,s9,s10,s11,s12,s13,s14⟩
           go_simp
           with_reducible rfl
          rotate_left
          ·simp only [Act.put,lA_,lZ_,lS_,i64_w,i32_w]
           rfl
          refine take_ (i:=40) (N:=some 148) (v:=?_) (a':=?_) laws_FnKeys.calls.b56 rfl rfl (take_ofW HT_.out HW_.out (by kernel_rfl)) (fun _ _ _ h => h) (Or.inl ⟨by rfl,?_⟩) hHeld ?_ ?_
          rotate_left
          ·rintro w' ⟨s0,s1,s2,s3,s4,s5,s6,s7,s8,s9,s10,s11,s12,s13,s14⟩
           go_simp
           with_reducible rfl
          rotate_left
          ·simp only [Act.put,lA_,lZ_,lS_,i64_w,i32_w]
           rfl
          refine pure_ (i:=41) (N:=some 149) (v:=?_) (a':=?_) laws_FnKeys.calls.b57 rfl rfl (any_of HT_.out (by kernel_rfl)) (fun _ _ _ h => h) (Or.inl ⟨by rfl,?_⟩) ?_ ?_
          rotate_left
          ·intro w'
           go_simp
           with_reducible rfl
          rotate_left
          ·simp only [Act.put,lA_,lZ_,lS_,i64_w,i32_w]
           rfl
          refine pure_ (i:=42) (N:=some 150) (v:=?_) (a':=?_) laws_FnKeys.calls.b58 rfl rfl (any_of HT_.out (by kernel_rfl)) (fun _ _ _ h => h) (Or.inl ⟨by rfl,?_⟩) ?_ ?_
          rotate_left
          ·intro w'
           go_simp
           with_reducible rfl
          rotate_left
          ·simp only [Act.put,lA_,lZ_,lS_,i64_w,i32_w]
           rfl
          refine pure_ (i:=43) (N:=some 151) (v:=?_) (a':=?_) laws_FnKeys.calls.b59 rfl rfl (any_of HT_.out (by kernel_rfl)) (fun _ _ _ h => h) (Or.inl ⟨by rfl,?_⟩) ?_ ?_
          rotate_left
          ·intro w'
           go_simp
           with_reducible rfl
          rotate_left
          ·simp only [Act.put,lA_,lZ_,lS_,i64_w,i32_w]
           rfl
          refine pure_ (i:=44) (N:=some 152) (v:=?_) (a':=?_) laws_FnKeys.calls.b60 rfl rfl (any_of HT_.out (by kernel_rfl)) (fun _ _ _ h => h) (Or.inl ⟨by rfl,?_⟩) ?_ ?_
          rotate_left
          ·intro w'
           go_simp
           with_reducible rfl
          rotate_left
          ·simp only [Act.put,lA_,lZ_,lS_,i64_w,i32_w]
           rfl
          refine pure_ (i:=45) (N:=some 153) (v:=?_) (a':=?_) laws_FnKeys.calls.b61 rfl rfl (any_of HT_.out (by kernel_rfl)) (fun _ _ _ h => h) (Or.inl ⟨by rfl,?_⟩) ?_ ?_
          rotate_left
          ·intro w'
           go_simp
           with_reducible rfl
          rotate_left
          ·simp only [Act.put,lA_,lZ_,lS_,i64_w,i32_w]
           rfl
          refine pure_ (i:=46) (N:=some 154) (v:=?_) (a':=?_) laws_FnKeys.calls.b62 rfl rfl (any_of HT_.out (by kernel_rfl)) (fun _ _ _ h => h) (Or.inl ⟨by rfl,?_⟩) ?_ ?_
          rotate_left
          ·intro w'
           go_simp
           with_reducible rfl
          rotate_left
          ·simp only [Act.put,lA_,lZ_,lS_,i64_w,i32_w]
           rfl
          refine pure_ (i:=47) (N:=some 155) (v:=?_) (a':=?_) laws_FnKeys.calls.b63 rfl rfl (any_of HT_.out (by kernel_rfl)) (fun _ _ _ h => h) (Or.inl ⟨by rfl,?_⟩) ?_ ?_
          rotate_left
          ·intro w'
           go_simp
           with_reducible rfl
          rotate_left
          ·simp only [Act.put,lA_,lZ_,lS_,i64_w,i32_w]
           rfl
          refine pure_ (i:=49) (N:=some 157) (v:=?_) (a':=?_) laws_FnKeys.calls.b64 rfl rfl (any_of HT_.out (by kernel_rfl)) (fun _ _ _ h => h) (Or.inl ⟨by rfl,?_⟩) ?_ ?_
          rotate_left
          ·intro w'
           go_simp
           with_reducible rfl
          rotate_left
          ·simp only [Act.put,lA_,lZ_,lS_,i64_w,i32_w]
           rfl
          refine pure_ (i:=50) (N:=some 158) (v:=?_) (a':=?_) laws_FnKeys.calls.b65 rfl rfl (any_of HT_.out (by kernel_rfl)) (fun _ _ _ h => h) (Or.inl ⟨by rfl,?_⟩) ?_ ?_
          rotate_left
          ·intro w'
           go_simp
           with_reducible rfl
          rotate_left
          ·simp only [Act.put,lA_,lZ_,lS_,i64_w,i32_w]
           rfl
          refine pure_ (i:=51) (N:=some 159) (v:=?_) (a':=?_) laws_FnKeys.calls.b66 rfl rfl (any_of HT_.out (by kernel_rfl)) (fun _ _ _ h => h) (Or.inl ⟨by rfl,?_⟩) ?_ ?_
          rotate_left
          ·intro w'
           go_simp
           with_reducible rfl
          rotate_left
          ·simp only [Act.put,lA_,lZ_,lS_,i64_w,i32_w]
           rfl
          refine take_ (i:=48) (N:=some 156) (v:=?_) (a':=?_) laws_FnKeys.calls.b67 rfl rfl (take_ofW HT_.out HW_.out (by kernel_rfl)) (fun _ _ _ h => h) (Or.inl ⟨by rfl,?_⟩) hHeld ?_ ?_
          rotate_left
          ·rintro w' ⟨s0,s1,s2,s3,s4,s5,s6,s7,s8,s9,s10,s11,s12,s13,s14⟩
           go_simp
           with_reducible rfl
          rotate_left
          ·simp only [Act.put,lA_,lZ_,lS_,i64_w,i32_w]
           rfl
          refine take_ (i:=52) (N:=some 160) (v:=?_) (a':=?_) laws_FnKeys.calls.b68 rfl rfl (take_ofW HT_.out HW_.out (by kernel_rfl)) (fun _ _ _ h => h) (Or.inl ⟨by rfl,?_⟩) hHeld ?_ ?_
          rotate_left
          ·rintro w' ⟨s0,s1,s2,s3,s4,s5,s6,s7,s8,s9,s10,s11,s12,s13,s14⟩
           go_simp
           with_reducible rfl
          rotate_left
          ·simp only [Act.put,lA_,lZ_,lS_,i64_w,i32_w]
           rfl
          refine one_ (i:=53) (N:=some 161) laws_FnKeys.calls.b69 rfl rfl (one_of HT_.out (by kernel_rfl)) (by decide) (fun K hK => ?_)
          refine goes_ Try.func14 (by kernel_rfl) rfl #[.slice ac t378.length ad,.slice bp x13_11.length bq,.int .i64 t362] (by rfl) rfl rfl (by (try simp only [List.map_toArray,List.map_cons,List.map_nil]);first | done | rfl | (simp only [List.length_drop,List.length_take];rfl)) ?_
          with_reducible refine (impl_IsSecret.calls kj40 _ _ t378 _ _ x13_11 t362 false _ ?side1 ?side2 ?side3 ?side4 cb.out).mono ?_
          (case side1 => exact Rc_ a4)
          (case side2 => exact (Kd.R_reads' a4.out).2.1)
          (case side3 => exact Rc_ aa)
          (case side4 => exact (Kd.R_reads' aa.out).2.1)
          rintro e w80 ⟨rfl,hb⟩
          refine ⟨_,rfl,?_⟩
          replace aa:=Z_ (Kd.R_below (Rk_ aa) hb)
          replace a5:=Z_ (Kd.R_below (Rk_ a5) hb)
          replace a4:=Z_ (Kd.R_below (Rk_ a4) hb)
          replace a8:=Z_ (Kd.R_below (Rk_ a8) hb)
          replace a1:=Z_ (bB_ (g:=a6) (o:=.cells #[.int .i64 t359,.int .i64 t360,.int .i64 t361,.int .i64 t362,.int .i64 t363,.slice ai t364.length ah] 30 (0,0)) (Bk_ a1) hb)
          replace a2:=Z_ (bB_ (g:=a7) (o:=.cells #[.int .i64 t376,.int .i64 t377,.slice ac t378.length ad] 33 (0,0)) (Bk_ a2) hb)
          replace a0:=Z_ (bB_ (g:=a9) (o:=.cells #[.int .i64 t388,.int .i64 t389,.int .i64 t390,.int .i64 t391,.int .i64 t392,.slice al t393.length am] 30 (0,0)) (Bk_ a0) hb)
          replace HB:=Z_ (lP_ Lb_ hb)
          (try clear hb)
          (try clear hb2)
          (try clear hk)
          (try clear hi)
          refine hK.out _ _ ⟨(blk_cell a1.out 0).trans rfl,(blk_cell a1.out 1).trans rfl,(blk_cell a1.out 2).trans rfl,(blk_cell a1.out 3).trans rfl,(blk_cell a1.out 4).trans rfl,(blk_cell a1.out 5).trans rfl,(blk_cell a0.out 0).trans rfl,(blk_cell a0.out 1).trans rfl,(blk_cell a0.out 2).trans rfl,(blk_cell a0.out 3).trans rfl,(blk_cell a0.out 4).trans rfl,(blk_cell a0.out 5).trans rfl,(blk_cell a2.out 0).trans rfl,(blk_cell a2.out 1).trans rfl,(blk_cell a2.out 2).trans rfl⟩ (fun hHeld => ?_)
          clear hK K
          refine norm_ (a':=?_) ?_ ?_
          rotate_left
          ·show Act.put _ (some 161) _ = _
           simp only [Act.put,lA_,lZ_,lS_,i64_w,i32_w]
           rfl
          refine pure_ (i:=54) (N:=some 162) (v:=?_) (a':=?_) laws_FnKeys.calls.b70 rfl rfl (any_of HT_.out (by kernel_rfl)) (fun _ _ _ h => h) (Or.inl ⟨by rfl,?_⟩) ?_ ?_
          rotate_left
          ·intro w'
           go_simp
           with_reducible rfl
          rotate_left
          ·simp only [Act.put,lA_,lZ_,lS_,i64_w,i32_w]
           rfl
          refine pure_ (i:=55) (N:=some 163) (v:=?_) (a':=?_) laws_FnKeys.calls.b71 rfl rfl (any_of HT_.out (by kernel_rfl)) (fun _ _ _ h => h) (Or.inl ⟨by rfl,?_⟩) ?_ ?_
          rotate_left
          ·intro w'
           go_simp
           with_reducible rfl
          rotate_left
          ·simp only [Act.put,lA_,lZ_,lS_,i64_w,i32_w]
           rfl
          refine pure_ (i:=56) (N:=some 164) (v:=?_) (a':=?_) laws_FnKeys.calls.b72 rfl rfl (any_of HT_.out (by kernel_rfl)) (fun _ _ _ h => h) (Or.inl ⟨by rfl,?_⟩) ?_ ?_
          rotate_left
          ·intro w'
           go_simp
           with_reducible rfl
          rotate_left
          ·simp only [Act.put,lA_,lZ_,lS_,i64_w,i32_w]
           rfl
          refine pure_ (i:=58) (N:=some 166) (v:=?_) (a':=?_) laws_FnKeys.calls.b73 rfl rfl (any_of HT_.out (by kernel_rfl)) (fun _ _ _ h => h) (Or.inl ⟨by rfl,?_⟩) ?_ ?_
          rotate_left
          ·intro w'
           go_simp
           with_reducible rfl
          rotate_left
          ·simp only [Act.put,lA_,lZ_,lS_,i64_w,i32_w]
           rfl
          refine pure_ (i:=59) (N:=some 167) (v:=?_) (a':=?_) laws_FnKeys.calls.b74 rfl rfl (any_of HT_.out (by kernel_rfl)) (fun _ _ _ h => h) (Or.inl ⟨by rfl,?_⟩) ?_ ?_
          rotate_left
          ·intro w'
           go_simp
           with_reducible rfl
          rotate_left
          ·simp only [Act.put,lA_,lZ_,lS_,i64_w,i32_w]
           rfl
          refine pure_ (i:=60) (N:=some 168) (v:=?_) (a':=?_) laws_FnKeys.calls.b75 rfl rfl (any_of HT_.out (by kernel_rfl)) (fun _ _ _ h => h) (Or.inl ⟨by rfl,?_⟩) ?_ ?_
          rotate_left
          ·intro w'
           go_simp
           with_reducible rfl
          rotate_left
          ·simp only [Act.put,lA_,lZ_,lS_,i64_w,i32_w]
           rfl
          refine take_ (i:=57) (N:=some 165) (v:=?_) (a':=?_) laws_FnKeys.calls.b79 rfl rfl (take_ofW HT_.out HW_.out (by kernel_rfl)) (fun _ _ _ h => h) (Or.inl ⟨by rfl,?_⟩) hHeld ?_ ?_
          rotate_left
          ·rintro w' ⟨s0,s1,s2,s3,s4,s5,s6,s7,s8,s9,s10,s11,s12,s13,s14⟩
           go_simp
           with_reducible rfl
          rotate_left
          ·simp only [Act.put,lA_,lZ_,lS_,i64_w,i32_w]
           rfl
          refine take_ (i:=61) (N:=some 169) (v:=?_) (a':=?_) laws_FnKeys.calls.b80 rfl rfl (take_ofW HT_.out HW_.out (by kernel_rfl)) (fun _ _ _ h => h) (Or.inl ⟨by rfl,?_⟩) hHeld ?_ ?_
          rotate_left
          ·rintro w' ⟨s0,s1,s2,s3,s4,s5,s6,s7,s8,s9,s10,s11,s12,s13,s14⟩
           go_simp
           with_reducible rfl
          rotate_left
          ·simp only [Act.put,lA_,lZ_,lS_,i64_w,i32_w]
           rfl
          refine one_ (i:=62) (N:=some 170) laws_FnKeys.calls.b81 rfl rfl (one_of HT_.out (by kernel_rfl)) (by decide) (fun K hK => ?_)
          refine goes_ Try.func12 (by kernel_rfl) rfl #[.slice ac t378.length ad,.slice bp x13_11.length bq,.int .i64 t360] (by rfl) rfl rfl (by (try simp only [List.map_toArray,List.map_cons,List.map_nil]);first | done | rfl | (simp only [List.length_drop,List.length_take];rfl)) ?_
          with_reducible refine (impl_Derives.calls kj40 _ _ t378 _ _ x13_11 t360 false _ ?side1 ?side2 ?side3 ?side4 cr.out).mono ?_
          (case side1 => exact Rc_ a4)
          (case side2 => exact (Kd.R_reads' a4.out).2.1)
          (case side3 => exact Rc_ aa)
          (case side4 => exact (Kd.R_reads' aa.out).2.1)
          rintro e w81 ⟨rfl,hb⟩
          refine ⟨_,rfl,?_⟩
          replace aa:=Z_ (Kd.R_below (Rk_ aa) hb)
          replace a5:=Z_ (Kd.R_below (Rk_ a5) hb)
          replace a4:=Z_ (Kd.R_below (Rk_ a4) hb)
          replace a8:=Z_ (Kd.R_below (Rk_ a8) hb)
          replace a1:=Z_ (bB_ (g:=a6) (o:=.cells #[.int .i64 t359,.int .i64 t360,.int .i64 t361,.int .i64 t362,.int .i64 t363,.slice ai t364.length ah] 30 (0,0)) (Bk_ a1) hb)
          replace a2:=Z_ (bB_ (g:=a7) (o:=.cells #[.int .i64 t376,.int .i64 t377,.slice ac t378.length ad] 33 (0,0)) (Bk_ a2) hb)
          replace a0:=Z_ (bB_ (g:=a9) (o:=.cells #[.int .i64 t388,.int .i64 t389,.int .i64 t390,.int .i64 t391,.int .i64 t392,.slice al t393.length am] 30 (0,0)) (Bk_ a0) hb)
          replace HB:=Z_ (lP_ Lb_ hb)
          (try clear hb)
          (try clear hb2)
          (try clear hk)
          (try clear hi)
          refine hK.out _ _ ⟨(blk_cell a1.out 0).trans rfl,(blk_cell a1.out 1).trans rfl,(blk_cell a1.out 2).trans rfl,(blk_cell a1.out 3).trans rfl,(blk_cell a1.out 4).trans rfl,(blk_cell a1.out 5).trans rfl,(blk_cell a0.out 0).trans rfl,(blk_cell a0.out 1).trans rfl,(blk_cell a0.out 2).trans rfl,(blk_cell a0.out 3).trans rfl,(blk_cell a0.out 4).trans rfl,(blk_cell a0.out 5).trans rfl,(blk_cell a2.out 0).trans rfl,(blk_cell a2.out 1).trans rfl,(blk_cell a2.out 2).trans rfl⟩ (fun hHeld => ?_)
          clear hK K
          refine norm_ (a':=?_) ?_ ?_
          rotate_left
          ·show Act.put _ (some 170) _ = _
           simp only [Act.put,lA_,lZ_,lS_,i64_w,i32_w]
           rfl
          refine pure_ (i:=63) (N:=some 171) (v:=?_) (a':=?_) laws_FnKeys.calls.b82 rfl rfl (any_of HT_.out (by kernel_rfl)) (fun _ _ _ h => h) (Or.inl ⟨by rfl,?_⟩) ?_ ?_
          rotate_left
          ·intro w'
           go_simp
           with_reducible rfl
          rotate_left
          ·simp only [Act.put,lA_,lZ_,lS_,i64_w,i32_w]
           rfl
          refine pure_ (i:=64) (N:=some 172) (v:=?_) (a':=?_) laws_FnKeys.calls.b83 rfl rfl (any_of HT_.out (by kernel_rfl)) (fun _ _ _ h => h) (Or.inl ⟨by rfl,?_⟩) ?_ ?_
          rotate_left
          ·intro w'
           go_simp
           with_reducible rfl
          rotate_left
          ·simp only [Act.put,lA_,lZ_,lS_,i64_w,i32_w]
           rfl
          refine pure_ (i:=65) (N:=some 173) (v:=?_) (a':=?_) laws_FnKeys.calls.b84 rfl rfl (any_of HT_.out (by kernel_rfl)) (fun _ _ _ h => h) (Or.inl ⟨by rfl,?_⟩) ?_ ?_
          rotate_left
          ·intro w'
           go_simp
           with_reducible rfl
          rotate_left
          ·simp only [Act.put,lA_,lZ_,lS_,i64_w,i32_w]
           rfl
          refine pu_ 67 (some 175) (Bt 77 221360928884514619391) (any_of HT_.out (by kernel_rfl)) ?_
          refine pu_ 70 (some 178) (Bt 77 1401952549601925922815) (any_of HT_.out (by kernel_rfl)) ?_
          refine pu_ 71 (some 179) (Bt 77 3763135791036748529663) (any_of HT_.out (by kernel_rfl)) ?_
          refine ta_ 66 (some 174) (Bt 77 3836922767331586736127) (take_ofW HT_.out HW_.out (by kernel_rfl)) hHeld ?_
          refine ta_ 72 (some 180) (Bt 77 8559289250201231949823) (take_ofW HT_.out HW_.out (by kernel_rfl)) hHeld ?_
          refine one_ (i:=68) (N:=some 176) (Bt 77 8854437155380584775679) rfl rfl (one_of HT_.out (by kernel_rfl)) (by decide) (fun K hK => ?_)
          refine goes_ Try.func16 (by kernel_rfl) rfl #[.slice ac t378.length ad,.slice bp x13_11.length bq] (by rfl) rfl rfl (by (try simp only [List.map_toArray,List.map_cons,List.map_nil]);first | done | rfl | (simp only [List.length_drop,List.length_take];rfl)) ?_
          with_reducible refine (impl_OpenAll.calls kj40 _ _ t378 _ _ x13_11 t409 t410 _ ?side1 ?side2 ?side3 ?side4 d1.out).mono ?_
          (case side1 => exact Rc_ a4)
          (case side2 => exact (Kd.R_reads' a4.out).2.1)
          (case side3 => exact Rc_ aa)
          (case side4 => exact (Kd.R_reads' aa.out).2.1)
          rintro e w82 ⟨v411,rfl,ho0,hb⟩
          refine ⟨_,rfl,?_⟩
          have n0_:=Z_ (Kd.R_elder' (Rk_ aa) (Kd.R_base ho0) hb)
          have n1_:=Z_ (Kd.R_below (Rk_ a5) hb)
          have n2_:=Z_ (Kd.R_below (Rk_ a4) hb)
          have n3_:=Z_ (Kd.R_below (Rk_ a8) hb)
          have n4_:=Z_ (Kd.R_lower (Kd.R_new' ho0 (Kd.R_lt (Rk_ aa))) (below_size Lb_))
          have n5_:=Z_ (bB_ (g:=a6) (o:=.cells #[.int .i64 t359,.int .i64 t360,.int .i64 t361,.int .i64 t362,.int .i64 t363,.slice ai t364.length ah] 30 (0,0)) (Bk_ a1) hb)
          have n6_:=Z_ (bB_ (g:=a7) (o:=.cells #[.int .i64 t376,.int .i64 t377,.slice ac t378.length ad] 33 (0,0)) (Bk_ a2) hb)
          have n7_:=Z_ (bB_ (g:=a9) (o:=.cells #[.int .i64 t388,.int .i64 t389,.int .i64 t390,.int .i64 t391,.int .i64 t392,.slice al t393.length am] 30 (0,0)) (Bk_ a0) hb)
          have n8_:=Z_ (lP_ Lb_ hb)
          clear aa
          clear a5
          clear a4
          clear a8
          clear a1
          clear a2
          clear a0
          clear HB
          have aa:=n0_
          have a5:=n1_
          have a4:=n2_
          have a8:=n3_
          have bm:=n4_
          have a1:=n5_
          have a2:=n6_
          have a0:=n7_
          have HB:=n8_
          clear n0_ n1_ n2_ n3_ n4_ n5_ n6_ n7_ n8_
          (try clear hb)
          (try clear hb2)
          (try clear hk)
          (try clear hi)
          (try clear ho0)
          obtain ⟨cx,cy,eo83⟩:=Kd.R_slice bm.out
          (first | subst eo83 | (injection eo83 with f1_ f2_ f3_;have f4_:=f1_.symm;have f5_:=f3_.symm;clear f1_ f2_ f3_;subst f4_;subst f5_))
          refine hK.out _ _ ⟨(blk_cell a1.out 0).trans rfl,(blk_cell a1.out 1).trans rfl,(blk_cell a1.out 2).trans rfl,(blk_cell a1.out 3).trans rfl,(blk_cell a1.out 4).trans rfl,(blk_cell a1.out 5).trans rfl,(blk_cell a0.out 0).trans rfl,(blk_cell a0.out 1).trans rfl,(blk_cell a0.out 2).trans rfl,(blk_cell a0.out 3).trans rfl,(blk_cell a0.out 4).trans rfl,(blk_cell a0.out 5).trans rfl,(blk_cell a2.out 0).trans rfl,(blk_cell a2.out 1).trans rfl,(blk_cell a2.out 2).trans rfl⟩ (fun hHeld => ?_)
          clear hK K
          refine norm_ (a':=?_) ?_ ?_
          rotate_left
          ·show Act.put _ (some 176) _ = _
           simp only [Act.put,lA_,lZ_,lS_,i64_w,i32_w]
           rfl
          refine pure_ (i:=69) (N:=some 177) (v:=?_) (a':=?_) laws_FnKeys.calls.b91 rfl rfl (any_of HT_.out (by kernel_rfl)) (fun _ _ _ h => h) (Or.inl ⟨by rfl,?_⟩) ?_ ?_
          rotate_left
          ·intro w'
           go_simp
           first | with_reducible rfl | (apply Eq.trans;apply rfield_ (ty:=37) 1 Try.underlying42 Try.underlying37;exact rfl;exact rfl;exact rfl;with_reducible rfl)
          rotate_left
          ·simp only [Act.put,lA_,lZ_,lS_,i64_w,i32_w]
           rfl
          refine one_ (i:=73) (N:=some 181) laws_FnKeys.calls.b92 rfl rfl (one_of HT_.out (by kernel_rfl)) (by decide) (fun K hK => ?_)
          refine goes_ Try.func15 (by kernel_rfl) rfl #[.slice cx t410.length cy,.int .i64 t362] (by rfl) rfl rfl (by (try simp only [List.map_toArray,List.map_cons,List.map_nil]);first | done | rfl | (simp only [List.length_drop,List.length_take];rfl)) ?_
          with_reducible refine (laws_lwHas.calls kj40 _ _ t410 t362 t413 _ ?side1 ?side2 d2.out).mono ?_
          (case side1 => exact Rc_ bm)
          (case side2 => exact (Kd.R_reads' bm.out).2.1)
          rintro e w' ⟨rfl,⟨nd,rfl⟩⟩
          refine ⟨_,rfl,?_⟩
          refine hK.out _ _ ⟨(blk_cell a1.out 0).trans rfl,(blk_cell a1.out 1).trans rfl,(blk_cell a1.out 2).trans rfl,(blk_cell a1.out 3).trans rfl,(blk_cell a1.out 4).trans rfl,(blk_cell a1.out 5).trans rfl,(blk_cell a0.out 0).trans rfl,(blk_cell a0.out 1).trans rfl,(blk_cell a0.out 2).trans rfl,(blk_cell a0.out 3).trans rfl,(blk_cell a0.out 4).trans rfl,(blk_cell a0.out 5).trans rfl,(blk_cell a2.out 0).trans rfl,(blk_cell a2.out 1).trans rfl,(blk_cell a2.out 2).trans rfl⟩ (fun hHeld => ?_)
          clear hK K
          refine norm_ (a':=?_) ?_ ?_
          rotate_left
          ·show Act.put _ (some 181) _ = _
           simp only [Act.put,lA_,lZ_,lS_,i64_w,i32_w]
           rfl
          refine pure_ (i:=74) (N:=some 182) (v:=?_) (a':=?_) laws_FnKeys.calls.b93 rfl rfl (any_of HT_.out (by kernel_rfl)) (fun _ _ _ h => h) (Or.inl ⟨by rfl,?_⟩) ?_ ?_
          rotate_left
          ·intro w'
           go_simp
           with_reducible rfl
          rotate_left
          ·simp only [Act.put,lA_,lZ_,lS_,i64_w,i32_w]
           rfl
          refine pure_ (i:=75) (N:=some 183) (v:=?_) (a':=?_) laws_FnKeys.calls.b94 rfl rfl (any_of HT_.out (by kernel_rfl)) (fun _ _ _ h => h) (Or.inl ⟨by rfl,?_⟩) ?_ ?_
          rotate_left
          ·intro w'
           go_simp
           with_reducible rfl
          rotate_left
          ·simp only [Act.put,lA_,lZ_,lS_,i64_w,i32_w]
           rfl
          refine pure_ (i:=76) (N:=some 2) (v:=?_) (a':=?_) laws_FnKeys.calls.b95 rfl rfl (any_of HT_.out (by kernel_rfl)) (fun _ _ _ h => h) (Or.inl ⟨by rfl,?_⟩) ?_ ?_
          rotate_left
          ·intro w'
           go_simp
           with_reducible rfl
          rotate_left
          ·simp only [Act.put,lA_,lZ_,lS_,i64_w,i32_w]
           rfl
          refine done_ (done_of HT_.out (by kernel_rfl)) ?_
          try go_wp2
          go_ret
          exact ⟨by first | rfl | (rw [hr_.out];first | done | rfl) | (simp [errW_none,errW_some] <;> rfl) | (simp [*,errW_none,errW_some] <;> rfl),Lb_⟩
     all_goals
      exact absurd (Option.some.inj H) (by decide)
end Go.Proofs.Ytpabeajjbifjdaa.G
