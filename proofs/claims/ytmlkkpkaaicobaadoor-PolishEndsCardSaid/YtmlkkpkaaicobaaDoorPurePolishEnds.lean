/- polish.Ends answers what P1.2 says, at every argument, and changes none of them: foretelllaw.PolishEnds returns true, and its argument reads as before. No condition; package polish's table is as the program's text lays it (the card ties it). -/
import Derived.Test.YtmlkkpkaaicobaaDoorQx12
import Derived.Test.YtmlkkpkaaicobaaDoorQo
import Derived.Test.YtmlkkpkaaicobaaDoorMOps
import Derived.Test.YtmlkkpkaaicobaaDoorMSame
namespace Go.Proofs.YtmlkkpkaaicobaaDoor.Pure
open Go.RowKit Go.Proofs.YtmlkkpkaaicobaaDoor Go.Proofs.YtmlkkpkaaicobaaDoor.Q Go.Proofs.YtmlkkpkaaicobaaDoor.Base Go.Proofs.YtmlkkpkaaicobaaDoorW.PrintWords Go.Proofs.YtmlkkpkaaicobaaDoorW.PrintLast Go.Proofs.YtmlkkpkaaicobaaDoorW.PrintMore
set_option linter.unusedVariables false
theorem PolishEnds (x0 : List S63) (good0 : (x0.length * 16 ≤ 140737488351232 ∧ ∀ zx0 ∈ x0, G63 zx0)) : ∃ k, foretelllaw_PolishEnds.f k x0 = some true := by
  refine Ev.rounds (g := fun k => foretelllaw_PolishEnds.f k x0) ?_
  unfold foretelllaw_PolishEnds.f
  refine ev_call (ops_eq x0 good0.1) ?_
  refine ev_call (a := endsS x0) rfl (ev_bind (endsOf_ev x0) ?_)
  simp only [if_true]
  have := endsS_bd x0
  refine ev_bind (sameInts_refl _ (by omega)) ?_
  simp only [if_true]
  exact ev_bind (sameOps_refl x0 (by have := good0.1; omega)) (Ev.now _)
end Go.Proofs.YtmlkkpkaaicobaaDoor.Pure
