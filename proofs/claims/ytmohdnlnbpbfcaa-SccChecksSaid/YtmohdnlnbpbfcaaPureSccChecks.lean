/- scc.Check answers what P8.1 says, at every argument: foretelllaw.SccChecks returns true, and its argument reads as before. No condition. -/
import Derived.Test.YtmohdnlnbpbfcaaQx17
import Derived.Test.YtmohdnlnbpbfcaaMGraph
namespace Go.Proofs.Ytmohdnlnbpbfcaa.Pure
open Go.RowKit Go.Proofs.Ytmohdnlnbpbfcaa.Q Go.Proofs.Ytmohdnlnbpbfcaa.Base Go.Proofs.YtmohdnlnbpbfcaaW.PrintWords Go.Proofs.YtmohdnlnbpbfcaaW.PrintLast Go.Proofs.YtmohdnlnbpbfcaaW.PrintMore
theorem SccChecks (x0 : S38) (good0 : G38 x0) : ∃ k, foretelllaw_SccChecks.f k x0.f0 x0.f1 x0.f2 x0.f3 x0.f4 = some true := by
  refine Ev.rounds (g := fun k => foretelllaw_SccChecks.f k x0.f0 x0.f1 x0.f2 x0.f3 x0.f4) ?_
  unfold foretelllaw_SccChecks.f
  refine ev_bind (graphs_ev x0 good0) (ev_bind (check_ev x0.f0 x0.f1 x0.f2 x0.f3 x0.f4 (graph_len good0)) (ev_bind (fault_ev x0.f0 x0.f1 x0.f2 x0.f3 x0.f4 (graph_len good0)) ?_))
  exact ev_const (fun k => by rw [beq_self_eq_true])
end Go.Proofs.Ytmohdnlnbpbfcaa.Pure
