/- FnExactGuessSeq: the pure law. -/
import Derived.Test.YtalkfdedbacidaaStmFnExactGuessSeq
import Derived.Test.YtalkfdedbacidaaPw2
namespace Go.Proofs.Ytalkfdedbacidaa.Pure
open Go.RowKit Go.Proofs.Ytalkfdedbacidaa.G Go.Proofs.YtalkfdedbacidaaW.PrintWords Go.Proofs.YtalkfdedbacidaaW.PrintLast

theorem FnExactGuessSeq : laws_FnExactGuessSeq.Pure := by
  intro x0 a1 _ _
  refine Ev.rounds ?_
  unfold laws_FnExactGuessSeq.f laws_toWindow.f
  simp only [Option.bind_some]
  refine Ev.bind (gs_spec _ _ _) (Ev.bind (gs_impl _ _ _) ?_)
  simp only [laws_eqIntResult.f, if_true, Option.bind_some]; exact Ev.now _

end Go.Proofs.Ytalkfdedbacidaa.Pure
