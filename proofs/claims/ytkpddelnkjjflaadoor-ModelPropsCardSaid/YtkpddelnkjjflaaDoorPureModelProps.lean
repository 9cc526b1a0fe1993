/- model.Props answers what the document says, at every argument: foretelllaw.ModelProps returns true. No condition; package polish's table is as the program's text lays it (the card ties it). -/
import Derived.Test.YtkpddelnkjjflaaDoorMx18
import Derived.Test.YtkpddelnkjjflaaDoorMCopies
import Derived.Test.YtkpddelnkjjflaaDoorMTerms
import Derived.Test.YtkpddelnkjjflaaDoorMProps
namespace Go.Proofs.YtkpddelnkjjflaaDoor.Pure
open Go.RowKit Go.Proofs.YtkpddelnkjjflaaDoor Go.Proofs.YtkpddelnkjjflaaDoor.M Go.Proofs.YtkpddelnkjjflaaDoor.Base Go.Proofs.YtkpddelnkjjflaaDoorW.PrintWords Go.Proofs.YtkpddelnkjjflaaDoorW.PrintLast Go.Proofs.YtkpddelnkjjflaaDoorW.PrintMore
set_option linter.unusedVariables false
set_option linter.unusedSimpArgs false
theorem ModelProps (x0 : S25) (x1 : List (List (S94))) (good0 : G25 x0) (good1 : (x1.length * 24 ≤ 140737488351232 ∧ ∀ zx1 ∈ x1, (zx1.length * 16 ≤ 140737488351232 ∧ ∀ zzx1 ∈ zx1, G94 zzx1))) : ∃ k, foretelllaw_ModelProps.f k x0.f0 x0.f1 x1 = some true := by
  refine Ev.rounds (g := fun k => foretelllaw_ModelProps.f k x0.f0 x0.f1 x1) ?_
  unfold foretelllaw_ModelProps.f
  refine ev_bind (models_ev x0 good0) (ev_bind (terms_ev x1 good1.1 (fun x hx => (good1.2 x hx).1)) (ev_bind (props_ev x0.f0 x0.f1 x1) (ev_bind (propsFault_ev x0.f0 x0.f1 x1) ?_)))
  simp only [beq_self_eq_true]
  exact Ev.now _
end Go.Proofs.YtkpddelnkjjflaaDoor.Pure
