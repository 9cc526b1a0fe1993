/- logic.Meets answers what the document says, at every argument: foretelllaw.LogicMeets returns true. No condition; package polish's table is as the program's text lays it (the card ties it). -/
import Derived.Test.YtmlkkpkaaicobaaDoorLx5
import Derived.Test.YtmlkkpkaaicobaaDoorLo
import Derived.Test.YtmlkkpkaaicobaaDoorMMeets
namespace Go.Proofs.YtmlkkpkaaicobaaDoor.Pure
open Go.RowKit Go.Proofs.YtmlkkpkaaicobaaDoor Go.Proofs.YtmlkkpkaaicobaaDoor.L Go.Proofs.YtmlkkpkaaicobaaDoor.Base Go.Proofs.YtmlkkpkaaicobaaDoorW.PrintWords Go.Proofs.YtmlkkpkaaicobaaDoorW.PrintLast Go.Proofs.YtmlkkpkaaicobaaDoorW.PrintMore
set_option linter.unusedVariables false
theorem LogicMeets (x0 : List (S63)) (x1 : List Bool) (a2 : Int) (good0 : (x0.length * 16 ≤ 140737488351232 ∧ ∀ zx0 ∈ x0, G63 zx0)) (good1 : (x1.length * 1 ≤ 140737488351232 ∧ ∀ zx1 ∈ x1, True)) (w2 : (Lit.int .i64 a2).wf = true) : ∃ k, foretelllaw_LogicMeets.f k x0 x1 a2 = some true := by
  refine Ev.rounds (g := fun k => foretelllaw_LogicMeets.f k x0 x1 a2) ?_
  unfold foretelllaw_LogicMeets.f
  refine ev_call (ops_eq x0 good0.1) (ev_call (truths_eq x1 good1.1) (ev_bind (meets_ev x0 x1 a2) (ev_bind (metBy_ev x0 x1 a2) ?_)))
  have hi : ∀ b : Int, (b == b) = true := fun b => by simp
  simp only [if_true, hi]
  exact Ev.now _
end Go.Proofs.YtmlkkpkaaicobaaDoor.Pure
