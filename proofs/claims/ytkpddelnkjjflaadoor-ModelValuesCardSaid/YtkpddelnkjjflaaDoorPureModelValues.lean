/- model.Values answers what the document says, at every argument: foretelllaw.ModelValues returns true. No condition; package polish's table is as the program's text lays it (the card ties it). -/
import Derived.Test.YtkpddelnkjjflaaDoorMx19
import Derived.Test.YtkpddelnkjjflaaDoorMCopies
import Derived.Test.YtkpddelnkjjflaaDoorMValues
import Derived.Test.YtkpddelnkjjflaaDoorMSame
namespace Go.Proofs.YtkpddelnkjjflaaDoor.Pure
open Go.RowKit Go.Proofs.YtkpddelnkjjflaaDoor Go.Proofs.YtkpddelnkjjflaaDoor.M Go.Proofs.YtkpddelnkjjflaaDoor.Base Go.Proofs.YtkpddelnkjjflaaDoorW.PrintWords Go.Proofs.YtkpddelnkjjflaaDoorW.PrintLast Go.Proofs.YtkpddelnkjjflaaDoorW.PrintMore
set_option linter.unusedVariables false
set_option linter.unusedSimpArgs false
theorem ModelValues (x0 : S25) (a1 : Int) (good0 : G25 x0) (w1 : (Lit.int .i64 a1).wf = true) : ∃ k, foretelllaw_ModelValues.f k x0.f0 x0.f1 a1 = some true := by
  refine Ev.rounds (g := fun k => foretelllaw_ModelValues.f k x0.f0 x0.f1 a1) ?_
  unfold foretelllaw_ModelValues.f
  refine ev_bind (models_ev x0 good0) (ev_bind (values_ev x0.f0 x0.f1 a1) (ev_bind (valuesOf_ev x0.f0 x0.f1 a1) ?_))
  simp only [↓reduceIte]
  exact ev_bind (sameInts_refl _ (by have := valuesS_len x0.f0 x0.f1 a1; omega)) (Ev.now _)
end Go.Proofs.YtkpddelnkjjflaaDoor.Pure
