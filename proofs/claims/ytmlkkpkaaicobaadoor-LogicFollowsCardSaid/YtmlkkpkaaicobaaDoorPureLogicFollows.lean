/- logic.Follows answers what the document says, at every argument: foretelllaw.LogicFollows returns true. No condition; package polish's table is as the program's text lays it (the card ties it). -/
import Derived.Test.YtmlkkpkaaicobaaDoorLx7
import Derived.Test.YtmlkkpkaaicobaaDoorLo
import Derived.Test.YtmlkkpkaaicobaaDoorMFollows
namespace Go.Proofs.YtmlkkpkaaicobaaDoor.Pure
open Go.RowKit Go.Proofs.YtmlkkpkaaicobaaDoor Go.Proofs.YtmlkkpkaaicobaaDoor.L Go.Proofs.YtmlkkpkaaicobaaDoor.Base Go.Proofs.YtmlkkpkaaicobaaDoorW.PrintWords Go.Proofs.YtmlkkpkaaicobaaDoorW.PrintLast Go.Proofs.YtmlkkpkaaicobaaDoorW.PrintMore
set_option linter.unusedVariables false
theorem LogicFollows (x0 : List (S63)) (x1 : List Bool) (a2 : Int) (x3 : List Bool) (a4 : Int) (good0 : (x0.length * 16 ≤ 140737488351232 ∧ ∀ zx0 ∈ x0, G63 zx0)) (good1 : (x1.length * 1 ≤ 140737488351232 ∧ ∀ zx1 ∈ x1, True)) (w2 : (Lit.int .i64 a2).wf = true) (good3 : (x3.length * 1 ≤ 140737488351232 ∧ ∀ zx3 ∈ x3, True)) (w4 : (Lit.int .i64 a4).wf = true) : ∃ k, foretelllaw_LogicFollows.f k x0 x1 a2 x3 a4 = some true := by
  refine Ev.rounds (g := fun k => foretelllaw_LogicFollows.f k x0 x1 a2 x3 a4) ?_
  unfold foretelllaw_LogicFollows.f
  refine ev_call (ops_eq x0 good0.1) (ev_call (truths_eq x1 good1.1) (ev_call (truths_eq x3 good3.1) (ev_bind (follows_ev x0 x1 a2 x3 a4) (ev_bind (followsOn_ev x0 x1 a2 x3 a4) ?_))))
  have hb : ∀ b : Bool, (b == b) = true := fun b => by cases b <;> rfl
  have hi : ∀ b : Int, (b == b) = true := fun b => by simp
  simp only [hb, if_true, hi]
  exact Ev.now _
end Go.Proofs.YtmlkkpkaaicobaaDoor.Pure
