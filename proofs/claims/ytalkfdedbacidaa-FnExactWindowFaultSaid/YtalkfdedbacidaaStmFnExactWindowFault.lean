/- The pure statement of FnExactWindowFault: what the law answers, as a function on numbers and lists, is true at all arguments. -/
import Derived.Test.YtalkfdedbacidaaGx8
namespace Go.Proofs.Ytalkfdedbacidaa.Pure
open Go.RowKit Go.Proofs.Ytalkfdedbacidaa.G Go.Proofs.YtalkfdedbacidaaW.PrintWords Go.Proofs.YtalkfdedbacidaaW.PrintLast
def laws_FnExactWindowFault.Pure : Prop := ∀ (x0 : Int × Int), (fun (x : Int × Int) => (fun n => (Lit.int .i64 n).wf = true) x.1 ∧ (fun n => (Lit.int .i64 n).wf = true) x.2) x0 → ∃ k, laws_FnExactWindowFault.f k (x0.1) (x0.2) = some true
end Go.Proofs.Ytalkfdedbacidaa.Pure
