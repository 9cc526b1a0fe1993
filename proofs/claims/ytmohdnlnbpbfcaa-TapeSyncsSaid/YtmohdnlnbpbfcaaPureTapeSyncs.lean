/- tape.Sync answers what P11.4 says, at every argument, and changes none of them: foretelllaw.TapeSyncs returns true, and its argument reads as before. No condition. -/
import Derived.Test.YtmohdnlnbpbfcaaQx27
import Derived.Test.YtmohdnlnbpbfcaaMTape
namespace Go.Proofs.Ytmohdnlnbpbfcaa.Pure
open Go.RowKit Go.Proofs.Ytmohdnlnbpbfcaa.Q Go.Proofs.Ytmohdnlnbpbfcaa.Base Go.Proofs.YtmohdnlnbpbfcaaW.PrintWords Go.Proofs.YtmohdnlnbpbfcaaW.PrintLast Go.Proofs.YtmohdnlnbpbfcaaW.PrintMore
theorem TapeSyncs (x0 : S43) (good0 : G43 x0) : ∃ k, foretelllaw_TapeSyncs.f k x0.f0 x0.f1 = some true := by
  have hl : x0.f0.length ≤ 140737488351232 := by have := good0.1.1; omega
  refine Ev.rounds (g := fun k => foretelllaw_TapeSyncs.f k x0.f0 x0.f1) ?_
  unfold foretelllaw_TapeSyncs.f
  refine ev_call (tapes_eq _ _ hl) ?_
  by_cases h : tapeMay x0.f0 x0.f1
  · refine ev_call (a := (x0.f0, (x0.f0.length : Int), 0)) (by unfold tape_Sync.f; rw [open_ok h]; rfl) ?_
    refine ev_bind (a := (x0.f0, (x0.f0.length : Int), 0)) ?_ ?_
    · unfold foretellref_TapeSynced.f
      refine ev_call (may_ok h) ?_
      simp only [if_true]
      exact ev_bind (octets_all _ hl) (Ev.now _)
    · exact ev_const (fun k => by simp [sameTape_refl])
  · refine ev_call (a := ([], 0, 9)) (by unfold tape_Sync.f; rw [open_bad h]; rfl) ?_
    refine ev_bind (a := ([], 0, 9)) ?_ ?_
    · unfold foretellref_TapeSynced.f
      refine ev_call (may_bad h) ?_
      exact ev_const (fun k => by simp)
    · exact ev_const (fun k => by simp [sameTape_refl])
end Go.Proofs.Ytmohdnlnbpbfcaa.Pure
