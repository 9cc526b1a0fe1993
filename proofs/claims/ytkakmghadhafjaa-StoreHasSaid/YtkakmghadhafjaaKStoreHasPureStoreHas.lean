-- Cut by a program of this session (wip/prune.py) from a longer text: declarations that the law does not need are left out.
import Derived.Test.YtkakmghadhafjaaKStoreHasRx48
import Derived.Test.YtkakmghadhafjaaKStoreHasMStoreHas
namespace Go.Proofs.Ytkakmghadhafjaa.Pure
open Go.RowKit Go.Proofs.Ytkakmghadhafjaa.R Go.Proofs.Ytkakmghadhafjaa.Base Go.Proofs.YtkakmghadhafjaaW.PrintWords Go.Proofs.YtkakmghadhafjaaW.PrintLast Go.Proofs.YtkakmghadhafjaaW.PrintMore
set_option linter.unusedVariables false
theorem StoreHas (x0 : S52) (a1 : Int) (good0 : G52 x0) (w1 : (Lit.int .i64 a1).wf = true) : ∃ k, foretelllaw_StoreHas.f k x0.f0 x0.f1 a1 = some true := by
  refine Ev.rounds (g := fun k => foretelllaw_StoreHas.f k x0.f0 x0.f1 a1) ?_
  unfold foretelllaw_StoreHas.f
  obtain ⟨r, e1, e2, _⟩ := has_both good0 a1
  refine ev_bind (stores_ev good0) (ev_bind e1 (ev_bind e2 ?_))
  simp only [beq_self_eq_true, ↓reduceIte]
  exact Ev.now _
end Go.Proofs.Ytkakmghadhafjaa.Pure
