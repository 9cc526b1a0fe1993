-- Cut by a program of this session (wip/prune.py) from a longer text: declarations that the law does not need are left out.
import Derived.Test.YtkpddelnkjjflaaDoorKProductChecksMx20
import Derived.Test.YtkpddelnkjjflaaDoorKProductChecksMTask
namespace Go.Proofs.YtkpddelnkjjflaaDoor.Pure
open Go.RowKit Go.Proofs.YtkpddelnkjjflaaDoor Go.Proofs.YtkpddelnkjjflaaDoor.M Go.Proofs.YtkpddelnkjjflaaDoor.Base Go.Proofs.YtkpddelnkjjflaaDoorW.PrintWords Go.Proofs.YtkpddelnkjjflaaDoorW.PrintLast Go.Proofs.YtkpddelnkjjflaaDoorW.PrintMore
set_option linter.unusedVariables false
set_option linter.unusedSimpArgs false
theorem ProductChecks (x0 : S47) (good0 : G47 x0) : ∃ k, foretelllaw_ProductChecks.f k x0.f0.f0 x0.f0.f1 x0.f1 x0.f2 = some true := by
  refine Ev.rounds (g := fun k => foretelllaw_ProductChecks.f k x0.f0.f0 x0.f0.f1 x0.f1 x0.f2) ?_
  unfold foretelllaw_ProductChecks.f
  refine ev_bind (tasks_ev x0 good0) (ev_bind (taskCheck_ev x0.f0.f0 x0.f0.f1 x0.f1 x0.f2) (ev_bind (taskFault_ev x0.f0.f0 x0.f0.f1 x0.f1 x0.f2) ?_))
  simp only [↓reduceIte]
  exact ev_bind (sameTask_ev x0 good0) (Ev.now _)
end Go.Proofs.YtkpddelnkjjflaaDoor.Pure
