/- The pure statement of FnExactTakeLow: what the law answers, as a function on numbers and lists, is true at all arguments. -/
import Derived.Test.YtalkfdedbacidaaGx89
namespace Go.Proofs.Ytalkfdedbacidaa.Pure
open Go.RowKit Go.Proofs.Ytalkfdedbacidaa.G Go.Proofs.YtalkfdedbacidaaW.PrintWords Go.Proofs.YtalkfdedbacidaaW.PrintLast
def laws_FnExactTakeLow.Pure : Prop := ∀ (x0 : Int × Int) (a1 : Int), (fun (x : Int × Int) => (fun n => (Lit.int .i64 n).wf = true) x.1 ∧ (fun n => (Lit.int .i64 n).wf = true) x.2) x0 → (Lit.int .i64 a1).wf = true → ∃ k, laws_FnExactTakeLow.f k (x0.1) (x0.2) a1 = some true
end Go.Proofs.Ytalkfdedbacidaa.Pure
