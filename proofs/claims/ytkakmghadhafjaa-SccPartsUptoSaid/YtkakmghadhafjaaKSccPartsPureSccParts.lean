-- Cut by a program of this session (wip/prune.py) from a longer text: declarations that the law does not need are left out.
import Derived.Test.YtkakmghadhafjaaKSccPartsQx23
import Derived.Test.YtkakmghadhafjaaKSccPartsMPartsBoth
import Derived.Test.YtkakmghadhafjaaKSccPartsMSameGraph
namespace Go.Proofs.Ytkakmghadhafjaa.Pure
open Go.RowKit Go.Proofs.Ytkakmghadhafjaa.Q Go.Proofs.Ytkakmghadhafjaa.Base Go.Proofs.YtkakmghadhafjaaW.PrintWords Go.Proofs.YtkakmghadhafjaaW.PrintLast Go.Proofs.YtkakmghadhafjaaW.PrintMore
set_option linter.unusedVariables false
theorem SccParts (x0 : S33) (good0 : G33 x0) (ht : tot x0.f2 ≤ 1048576) : ∃ k, foretelllaw_SccParts.f k x0.f0 x0.f1 x0.f2 x0.f3 x0.f4 = some true := by
  refine Ev.rounds (g := fun k => foretelllaw_SccParts.f k x0.f0 x0.f1 x0.f2 x0.f3 x0.f4) ?_
  unfold foretelllaw_SccParts.f
  refine ev_bind (graphs_ev x0 good0) ?_
  dsimp only
  have key : ∃ r : List Int × Int, r.1.length ≤ 20000 ∧ Ev (fun k => scc_Parts.f k x0.f0 x0.f1 x0.f2 x0.f3 x0.f4) r ∧ Ev (fun k => foretellref_PartsOfGraph.f k x0.f0 x0.f1 x0.f2 x0.f3 x0.f4) r := by
    by_cases hg : graphOK x0.f0.length x0.f1 x0.f2 x0.f3 x0.f4 = true
    · have h := graphIs hg
      obtain ⟨r, g1, e1, e2⟩ := parts_both good0 ht h hg
      exact ⟨(r, 0), by have := g1.1; have := h.n; simp only; omega, e1, e2⟩
    · obtain ⟨e1, e2⟩ := parts_fault good0 (Bool.eq_false_iff.2 hg)
      exact ⟨([], 9), by decide, e1, e2⟩
  obtain ⟨r, hr, e1, e2⟩ := key
  refine ev_bind e1 (ev_bind e2 ?_)
  simp only [↓reduceIte]
  refine ev_bind (same_ints r.1 (by omega)) ?_
  simp only [↓reduceIte]
  exact ev_bind (same_graph good0) (ev_const (fun k => rfl))
end Go.Proofs.Ytkakmghadhafjaa.Pure
