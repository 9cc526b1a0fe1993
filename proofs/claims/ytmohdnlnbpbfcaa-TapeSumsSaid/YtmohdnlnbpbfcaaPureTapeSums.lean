/- tape.Sum answers what P11.2 says, at every argument: foretelllaw.TapeSums returns true, and its argument reads as before. No condition. -/
import Derived.Test.YtmohdnlnbpbfcaaQx6
import Derived.Test.YtmohdnlnbpbfcaaMSum
namespace Go.Proofs.Ytmohdnlnbpbfcaa.Pure
open Go.RowKit Go.Proofs.Ytmohdnlnbpbfcaa.Q Go.Proofs.Ytmohdnlnbpbfcaa.Base Go.Proofs.YtmohdnlnbpbfcaaW.PrintWords Go.Proofs.YtmohdnlnbpbfcaaW.PrintLast Go.Proofs.YtmohdnlnbpbfcaaW.PrintMore
theorem TapeSums (x0 : List Int) (good0 : (x0.length * 1 ≤ 140737488351232 ∧ ∀ zx0 ∈ x0, (Lit.int .u8 zx0).wf = true)) : ∃ k, foretelllaw_TapeSums.f k x0 = some true := by
  obtain ⟨g1, g2⟩ := good0
  refine Ev.rounds (g := fun k => foretelllaw_TapeSums.f k x0) ?_
  unfold foretelllaw_TapeSums.f
  refine ev_call (a := x0) (by unfold foretelllaw_octets.f; rw [if_pos (by simp; omega)]; rfl) ?_
  refine ev_bind (sum_ev x0 (by omega) (okB_of g2)) (ev_bind (summed_ev x0 (by omega) (okB_of g2)) ?_)
  exact ev_const (fun k => by rw [beq_self_eq_true])
end Go.Proofs.Ytmohdnlnbpbfcaa.Pure
