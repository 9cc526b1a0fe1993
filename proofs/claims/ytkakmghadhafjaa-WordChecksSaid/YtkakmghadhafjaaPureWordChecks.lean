/- word.Check answers what the document says, at every argument: foretelllaw.WordChecks returns true. No condition. -/
import Derived.Test.YtkakmghadhafjaaWx2
import Derived.Test.YtkakmghadhafjaaMWord
namespace Go.Proofs.Ytkakmghadhafjaa.Pure
open Go.RowKit Go.Proofs.Ytkakmghadhafjaa Go.Proofs.Ytkakmghadhafjaa.W Go.Proofs.Ytkakmghadhafjaa.Base Go.Proofs.YtkakmghadhafjaaW.PrintWords Go.Proofs.YtkakmghadhafjaaW.PrintLast Go.Proofs.YtkakmghadhafjaaW.PrintMore
set_option linter.unusedVariables false
theorem WordChecks (x0 : S24) (a1 : Int) (good0 : G24 x0) (w1 : (Lit.int .i64 a1).wf = true) : ∃ k, foretelllaw_WordChecks.f k x0.f0 x0.f1 a1 = some true := by
  refine Ev.rounds (g := fun k => foretelllaw_WordChecks.f k x0.f0 x0.f1 a1) ?_
  unfold foretelllaw_WordChecks.f
  have h0 : x0.f0.length ≤ 9223372036854775807 := by have := good0.1.1; omega
  have h1 : x0.f1.length ≤ 9223372036854775807 := by have := good0.2.1; omega
  refine ev_bind (words_ev x0 good0) (ev_call (a := wordS x0.f0 x0.f1 a1) rfl (ev_bind (wordFault_ev x0.f0 x0.f1 a1 h0 h1) ?_))
  have hi : ∀ b : Int, (b == b) = true := fun b => by simp
  simp only [hi]
  exact Ev.now _
end Go.Proofs.Ytkakmghadhafjaa.Pure
