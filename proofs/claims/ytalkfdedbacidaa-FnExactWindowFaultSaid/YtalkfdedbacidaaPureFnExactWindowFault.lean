/- FnExactWindowFault: the pure law. -/
import Derived.Test.YtalkfdedbacidaaStmFnExactWindowFault
import Derived.Test.YtalkfdedbacidaaPw2
namespace Go.Proofs.Ytalkfdedbacidaa.Pure
open Go.RowKit Go.Proofs.Ytalkfdedbacidaa.G Go.Proofs.YtalkfdedbacidaaW.PrintWords Go.Proofs.YtalkfdedbacidaaW.PrintLast

theorem FnExactWindowFault : laws_FnExactWindowFault.Pure := by
  intro x0 _
  refine Ev.rounds ?_
  unfold laws_FnExactWindowFault.f laws_toWindow.f
  simp only [Option.bind_some]
  refine Ev.bind (wf_spec _ _) (Ev.bind (wf_impl _ _) ?_)
  simp only [if_true]; exact Ev.now _

end Go.Proofs.Ytalkfdedbacidaa.Pure
