/- expr.Eval answers what the document says, at every argument, and changes none of them: foretelllaw.ExprEvals returns true. No condition; package polish's table is as the program's text lays it (the card ties it). -/
import Derived.Test.YtmlkkpkaaicobaaDoorEx5
import Derived.Test.YtmlkkpkaaicobaaDoorEo
import Derived.Test.YtmlkkpkaaicobaaDoorMWorked
import Derived.Test.YtmlkkpkaaicobaaDoorMSame
namespace Go.Proofs.YtmlkkpkaaicobaaDoor.Pure
open Go.RowKit Go.Proofs.YtmlkkpkaaicobaaDoor Go.Proofs.YtmlkkpkaaicobaaDoor.E Go.Proofs.YtmlkkpkaaicobaaDoor.Base Go.Proofs.YtmlkkpkaaicobaaDoorW.PrintWords Go.Proofs.YtmlkkpkaaicobaaDoorW.PrintLast Go.Proofs.YtmlkkpkaaicobaaDoorW.PrintMore
set_option linter.unusedVariables false
theorem ints_eq (l : List Int) (h : l.length * 8 ≤ 140737488351232) : foretelllaw_ints.f l = some l := by
  unfold foretelllaw_ints.f
  rw [if_pos (by simp; omega), List.nil_append]
theorem ExprEvals (x0 : List (S63)) (x1 : List Int) (good0 : (x0.length * 16 ≤ 140737488351232 ∧ ∀ zx0 ∈ x0, G63 zx0)) (good1 : (x1.length * 8 ≤ 140737488351232 ∧ ∀ zx1 ∈ x1, (Lit.int .i64 zx1).wf = true)) : ∃ k, foretelllaw_ExprEvals.f k x0 x1 = some true := by
  refine Ev.rounds (g := fun k => foretelllaw_ExprEvals.f k x0 x1) ?_
  unfold foretelllaw_ExprEvals.f
  refine ev_call (ints_eq x1 good1.1) (ev_call (ops_eq x0 good0.1) (ev_call (a := evalS x0 x1) rfl (ev_bind (evaluated_ev x0 x1 (by have := good1.1; omega)) ?_)))
  simp only [if_true]
  exact ev_bind (sameInts_refl _ (by have := good1.1; omega)) (Ev.now _)
end Go.Proofs.YtmlkkpkaaicobaaDoor.Pure
