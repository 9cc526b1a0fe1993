/- model.Check answers what the document says, at every argument, and changes none of them: foretelllaw.ModelChecks returns true. No condition; package polish's table is as the program's text lays it (the card ties it). -/
import Derived.Test.YtkpddelnkjjflaaDoorMx14
import Derived.Test.YtkpddelnkjjflaaDoorMCopies
import Derived.Test.YtkpddelnkjjflaaDoorMSameModel
namespace Go.Proofs.YtkpddelnkjjflaaDoor.Pure
open Go.RowKit Go.Proofs.YtkpddelnkjjflaaDoor Go.Proofs.YtkpddelnkjjflaaDoor.M Go.Proofs.YtkpddelnkjjflaaDoor.Base Go.Proofs.YtkpddelnkjjflaaDoorW.PrintWords Go.Proofs.YtkpddelnkjjflaaDoorW.PrintLast Go.Proofs.YtkpddelnkjjflaaDoorW.PrintMore
set_option linter.unusedVariables false
set_option linter.unusedSimpArgs false
theorem ModelChecks (x0 : S25) (good0 : G25 x0) : ∃ k, foretelllaw_ModelChecks.f k x0.f0 x0.f1 = some true := by
  refine Ev.rounds (g := fun k => foretelllaw_ModelChecks.f k x0.f0 x0.f1) ?_
  unfold foretelllaw_ModelChecks.f
  refine ev_bind (models_ev x0 good0) (ev_bind (modelCheck_ev x0.f0 x0.f1) (ev_bind (modelFault_ev x0.f0 x0.f1) ?_))
  simp only [↓reduceIte]
  exact ev_bind (sameModel_ev x0 good0) (Ev.now _)
end Go.Proofs.YtkpddelnkjjflaaDoor.Pure
