/- polish.Parts answers what P1.1 says, at every argument: foretelllaw.PolishParts returns true, and its argument reads as before. No condition; package polish's table is as the program's text lays it (the card ties it). -/
import Derived.Test.YtmlkkpkaaicobaaDoorQx4
import Derived.Test.YtmlkkpkaaicobaaDoorMParts
namespace Go.Proofs.YtmlkkpkaaicobaaDoor.Pure
open Go.RowKit Go.Proofs.YtmlkkpkaaicobaaDoor Go.Proofs.YtmlkkpkaaicobaaDoor.Q Go.Proofs.YtmlkkpkaaicobaaDoor.Base Go.Proofs.YtmlkkpkaaicobaaDoorW.PrintWords Go.Proofs.YtmlkkpkaaicobaaDoorW.PrintLast Go.Proofs.YtmlkkpkaaicobaaDoorW.PrintMore
set_option linter.unusedVariables false
theorem PolishParts (a0 : Int) (w0 : (Lit.int .i64 a0).wf = true) : ∃ k, foretelllaw_PolishParts.f k a0 = some true := by
  refine Ev.rounds (g := fun k => foretelllaw_PolishParts.f k a0) ?_
  unfold foretelllaw_PolishParts.f
  refine ev_call (parts_eq a0) (ev_bind (partsOf_ev a0) ?_)
  exact ev_const (fun k => by simp)
end Go.Proofs.YtmlkkpkaaicobaaDoor.Pure
