-- Cut by a program of this session (wip/prune.py) from a longer text: declarations that the law does not need are left out.
import Derived.Test.YtkakmghadhafjaaKStoreChecksRx33
import Derived.Test.YtkakmghadhafjaaKStoreChecksMStore
namespace Go.Proofs.Ytkakmghadhafjaa.Pure
open Go.RowKit Go.Proofs.Ytkakmghadhafjaa.R Go.Proofs.Ytkakmghadhafjaa.Base Go.Proofs.YtkakmghadhafjaaW.PrintWords Go.Proofs.YtkakmghadhafjaaW.PrintLast Go.Proofs.YtkakmghadhafjaaW.PrintMore
set_option linter.unusedVariables false
theorem StoreChecks (x0 : S52) (good0 : G52 x0) : ∃ k, foretelllaw_StoreChecks.f k x0.f0 x0.f1 = some true := by
  refine Ev.rounds (g := fun k => foretelllaw_StoreChecks.f k x0.f0 x0.f1) ?_
  unfold foretelllaw_StoreChecks.f
  obtain ⟨β, _, e1, e2⟩ := check_both good0
  refine ev_bind (stores_ev good0) (ev_bind e1 (ev_bind e2 ?_))
  exact ev_const (fun k => by rw [beq_self_eq_true])
end Go.Proofs.Ytkakmghadhafjaa.Pure
