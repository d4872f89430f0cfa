/- FnExactTakeLow: the pure law. -/
import Derived.Test.YtalkfdedbacidaaStmFnExactTakeLow
import Derived.Test.YtalkfdedbacidaaPw2
namespace Go.Proofs.Ytalkfdedbacidaa.Pure
open Go.RowKit Go.Proofs.Ytalkfdedbacidaa.G Go.Proofs.YtalkfdedbacidaaW.PrintWords Go.Proofs.YtalkfdedbacidaaW.PrintLast

theorem FnExactTakeLow : laws_FnExactTakeLow.Pure := by
  intro x0 a1 hx _
  refine Ev.rounds ?_
  unfold laws_FnExactTakeLow.f laws_toWindow.f
  simp only [Option.bind_some]
  refine Ev.bind (tl_spec _ _ _) (Ev.bind (tl_impl _ _ _ hx.1) ?_)
  simp only [laws_eqWindowResult.f, laws_eqWindow.f, if_true, Option.bind_some]; exact Ev.now _

end Go.Proofs.Ytalkfdedbacidaa.Pure
