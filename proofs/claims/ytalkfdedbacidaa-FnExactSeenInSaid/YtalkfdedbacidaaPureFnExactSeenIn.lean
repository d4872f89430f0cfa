/- FnExactSeenIn: the pure law. -/
import Derived.Test.YtalkfdedbacidaaStmFnExactSeenIn
import Derived.Test.YtalkfdedbacidaaPw2
namespace Go.Proofs.Ytalkfdedbacidaa.Pure
open Go.RowKit Go.Proofs.Ytalkfdedbacidaa.G Go.Proofs.YtalkfdedbacidaaW.PrintWords Go.Proofs.YtalkfdedbacidaaW.PrintLast

theorem FnExactSeenIn : laws_FnExactSeenIn.Pure := by
  intro x0 a1 _ _
  refine Ev.rounds ?_
  unfold laws_FnExactSeenIn.f laws_toWindow.f
  simp only [Option.bind_some]
  refine Ev.bind (sn_spec _ _ _) (Ev.bind (sn_impl _ _ _) ?_)
  simp only [bne_self_eq_false, Bool.false_eq_true, if_false]; exact Ev.now _

end Go.Proofs.Ytalkfdedbacidaa.Pure
