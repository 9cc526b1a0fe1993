/- tape.Write answers what P11.3 says, at every argument, and changes none of them: foretelllaw.TapeWrites returns true, and its arguments read as before. No condition. -/
import Derived.Test.YtmohdnlnbpbfcaaQx51
import Derived.Test.YtmohdnlnbpbfcaaMTape
import Derived.Test.YtmohdnlnbpbfcaaMRecord
namespace Go.Proofs.Ytmohdnlnbpbfcaa.Pure
open Go.RowKit Go.Proofs.Ytmohdnlnbpbfcaa.Q Go.Proofs.Ytmohdnlnbpbfcaa.Base Go.Proofs.YtmohdnlnbpbfcaaW.PrintWords Go.Proofs.YtmohdnlnbpbfcaaW.PrintLast Go.Proofs.YtmohdnlnbpbfcaaW.PrintMore
theorem TapeWrites (x0 : S43) (x1 : List Int) (good0 : G43 x0) (good1 : (x1.length * 8 ≤ 140737488351232 ∧ ∀ zx1 ∈ x1, (Lit.int .i64 zx1).wf = true)) : ∃ k, foretelllaw_TapeWrites.f k x0.f0 x0.f1 x1 = some true := by
  have hl : x0.f0.length ≤ 140737488351232 := by have := good0.1.1; omega
  have hb : okB x0.f0 := okB_of good0.1.2
  refine Ev.rounds (g := fun k => foretelllaw_TapeWrites.f k x0.f0 x0.f1 x1) ?_
  unfold foretelllaw_TapeWrites.f
  refine ev_call (tapes_eq _ _ hl) ?_
  refine ev_call (a := x1) (by unfold foretelllaw_ints.f; rw [if_pos (by have := good1.1; simp; omega)]; rfl) ?_
  obtain ⟨r, h1, h2⟩ := write_same x0.f0 x0.f1 x1
  refine ev_bind h1 (ev_bind h2 ?_)
  exact ev_const (fun k => by simp [sameTape_refl])
end Go.Proofs.Ytmohdnlnbpbfcaa.Pure
