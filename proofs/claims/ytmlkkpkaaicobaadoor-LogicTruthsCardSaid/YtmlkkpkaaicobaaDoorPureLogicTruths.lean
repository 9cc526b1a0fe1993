/- logic.Truths answers what the document says, at every argument, and changes none of them: foretelllaw.LogicTruths returns true. No condition; package polish's table is as the program's text lays it (the card ties it). -/
import Derived.Test.YtmlkkpkaaicobaaDoorPx19
import Derived.Test.YtmlkkpkaaicobaaDoorPo
import Derived.Test.YtmlkkpkaaicobaaDoorMTruths
namespace Go.Proofs.YtmlkkpkaaicobaaDoor.Pure
open Go.RowKit Go.Proofs.YtmlkkpkaaicobaaDoor Go.Proofs.YtmlkkpkaaicobaaDoor.P Go.Proofs.YtmlkkpkaaicobaaDoor.Base Go.Proofs.YtmlkkpkaaicobaaDoorW.PrintWords Go.Proofs.YtmlkkpkaaicobaaDoorW.PrintLast Go.Proofs.YtmlkkpkaaicobaaDoorW.PrintMore
set_option linter.unusedVariables false
theorem LogicTruths (x0 : List (S63)) (x1 : List Bool) (a2 : Int) (good0 : (x0.length * 16 ≤ 140737488351232 ∧ ∀ zx0 ∈ x0, G63 zx0)) (good1 : (x1.length * 1 ≤ 140737488351232 ∧ ∀ zx1 ∈ x1, True)) (w2 : (Lit.int .i64 a2).wf = true) : ∃ k, foretelllaw_LogicTruths.f k x0 x1 a2 = some true := by
  refine Ev.rounds (g := fun k => foretelllaw_LogicTruths.f k x0 x1 a2) ?_
  unfold foretelllaw_LogicTruths.f
  refine ev_call (truths_eq x1 good1.1) (ev_call (ops_eq x0 good0.1) (ev_call (a := truthsS x0 x1 a2) rfl (ev_bind (truthsOf_ev x0 x1 a2) ?_)))
  simp only [if_true]
  refine ev_bind (sameTruths_refl _ (by have := truthsS_len x0 x1 a2; omega)) ?_
  simp only [if_true]
  exact ev_bind (sameTruths_refl _ (by have := good1.1; omega)) (Ev.now _)
end Go.Proofs.YtmlkkpkaaicobaaDoor.Pure
