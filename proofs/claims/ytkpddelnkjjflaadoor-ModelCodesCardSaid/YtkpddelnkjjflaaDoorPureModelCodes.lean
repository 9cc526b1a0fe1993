/- model.Code answers what the document says, at every argument, and changes none of them: foretelllaw.ModelCodes returns true. No condition; package polish's table is as the program's text lays it (the card ties it). -/
import Derived.Test.YtkpddelnkjjflaaDoorMx15
import Derived.Test.YtkpddelnkjjflaaDoorMCopies
import Derived.Test.YtkpddelnkjjflaaDoorMInts
import Derived.Test.YtkpddelnkjjflaaDoorMCode
import Derived.Test.YtkpddelnkjjflaaDoorMSame
namespace Go.Proofs.YtkpddelnkjjflaaDoor.Pure
open Go.RowKit Go.Proofs.YtkpddelnkjjflaaDoor Go.Proofs.YtkpddelnkjjflaaDoor.M Go.Proofs.YtkpddelnkjjflaaDoor.Base Go.Proofs.YtkpddelnkjjflaaDoorW.PrintWords Go.Proofs.YtkpddelnkjjflaaDoorW.PrintLast Go.Proofs.YtkpddelnkjjflaaDoorW.PrintMore
set_option linter.unusedVariables false
set_option linter.unusedSimpArgs false
theorem ModelCodes (x0 : S25) (x1 : List Int) (good0 : G25 x0) (good1 : (x1.length * 8 ≤ 140737488351232 ∧ ∀ zx1 ∈ x1, (Lit.int .i64 zx1).wf = true)) : ∃ k, foretelllaw_ModelCodes.f k x0.f0 x0.f1 x1 = some true := by
 refine Ev.rounds (g := fun k => foretelllaw_ModelCodes.f k x0.f0 x0.f1 x1) ?_
 unfold foretelllaw_ModelCodes.f
 refine ev_call (ints_eq x1 good1.1) (ev_bind (models_ev x0 good0) (ev_bind (code_ev x0.f0 x0.f1 x1) (ev_bind (codeOf_ev x0.f0 x0.f1 x1) ?_)))
 simp only [↓reduceIte]
 exact ev_bind (sameInts_refl _ (by have := good1.1; omega)) (Ev.now _)
end Go.Proofs.YtkpddelnkjjflaaDoor.Pure
