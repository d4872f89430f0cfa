/- FnExactTakeSeq: the pure law. -/
import Derived.Test.YtalkfdedbacidaaStmFnExactTakeSeq
import Derived.Test.YtalkfdedbacidaaPw2
namespace Go.Proofs.Ytalkfdedbacidaa.Pure
open Go.RowKit Go.Proofs.Ytalkfdedbacidaa.G Go.Proofs.YtalkfdedbacidaaW.PrintWords Go.Proofs.YtalkfdedbacidaaW.PrintLast

theorem FnExactTakeSeq : laws_FnExactTakeSeq.Pure := by
  intro x0 a1 hx _
  refine Ev.rounds ?_
  unfold laws_FnExactTakeSeq.f laws_toWindow.f
  simp only [Option.bind_some]
  refine Ev.bind (ts_spec _ _ _) (Ev.bind (ts_impl _ _ _ hx.1) ?_)
  simp only [laws_eqWindowResult.f, laws_eqWindow.f, if_true, Option.bind_some]; exact Ev.now _

end Go.Proofs.Ytalkfdedbacidaa.Pure
