/- expr.Check answers what the document says, at every argument: foretelllaw.ExprChecks returns true. No condition; package polish's table is as the program's text lays it (the card ties it). -/
import Derived.Test.YtmlkkpkaaicobaaDoorPx16
import Derived.Test.YtmlkkpkaaicobaaDoorPo
import Derived.Test.YtmlkkpkaaicobaaDoorMExpr
namespace Go.Proofs.YtmlkkpkaaicobaaDoor.Pure
open Go.RowKit Go.Proofs.YtmlkkpkaaicobaaDoor Go.Proofs.YtmlkkpkaaicobaaDoor.P Go.Proofs.YtmlkkpkaaicobaaDoor.Base Go.Proofs.YtmlkkpkaaicobaaDoorW.PrintWords Go.Proofs.YtmlkkpkaaicobaaDoorW.PrintLast Go.Proofs.YtmlkkpkaaicobaaDoorW.PrintMore
set_option linter.unusedVariables false
theorem ExprChecks (x0 : List S63) (a1 : Int) (good0 : (x0.length * 16 ≤ 140737488351232 ∧ ∀ zx0 ∈ x0, G63 zx0)) (w1 : (Lit.int .i64 a1).wf = true) : ∃ k, foretelllaw_ExprChecks.f k x0 a1 = some true := by
  refine Ev.rounds (g := fun k => foretelllaw_ExprChecks.f k x0 a1) ?_
  unfold foretelllaw_ExprChecks.f
  refine ev_call (ops_eq x0 good0.1) ?_
  refine ev_bind (exprCheck_ev x0 a1 (wf_i64 w1)) (ev_bind (exprChecked_ev x0 a1 (wf_i64 w1)) ?_)
  simp only [beq_self_eq_true, if_true]
  exact Ev.now _
end Go.Proofs.YtmlkkpkaaicobaaDoor.Pure
