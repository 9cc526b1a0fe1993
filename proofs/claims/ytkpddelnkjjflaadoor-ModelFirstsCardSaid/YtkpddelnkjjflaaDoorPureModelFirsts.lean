/- model.First answers what the document says, at every argument: foretelllaw.ModelFirsts returns true. No condition; package polish's table is as the program's text lays it (the card ties it). -/
import Derived.Test.YtkpddelnkjjflaaDoorMx17
import Derived.Test.YtkpddelnkjjflaaDoorMCopies
import Derived.Test.YtkpddelnkjjflaaDoorMFirst2
namespace Go.Proofs.YtkpddelnkjjflaaDoor.Pure
open Go.RowKit Go.Proofs.YtkpddelnkjjflaaDoor Go.Proofs.YtkpddelnkjjflaaDoor.M Go.Proofs.YtkpddelnkjjflaaDoor.Base Go.Proofs.YtkpddelnkjjflaaDoorW.PrintWords Go.Proofs.YtkpddelnkjjflaaDoorW.PrintLast Go.Proofs.YtkpddelnkjjflaaDoorW.PrintMore
set_option linter.unusedVariables false
set_option linter.unusedSimpArgs false
theorem ModelFirsts (x0 : S25) (good0 : G25 x0) : ∃ k, foretelllaw_ModelFirsts.f k x0.f0 x0.f1 = some true := by
 refine Ev.rounds (g := fun k => foretelllaw_ModelFirsts.f k x0.f0 x0.f1) ?_
 unfold foretelllaw_ModelFirsts.f
 have hv : x0.f0.length ≤ 3518437208883 := by have := good0.1.1; omega
 refine ev_bind (models_ev x0 good0) (ev_bind (first_ev x0.f0 x0.f1 hv) (ev_bind (firstCode_ev x0.f0 x0.f1 hv) ?_))
 simp only [↓reduceIte, beq_self_eq_true]
 exact Ev.now _
end Go.Proofs.YtkpddelnkjjflaaDoor.Pure
