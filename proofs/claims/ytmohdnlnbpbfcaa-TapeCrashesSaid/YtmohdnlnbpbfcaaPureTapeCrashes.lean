/- tape.Crash answers what P11.5 says, at every argument, and changes none of them: foretelllaw.TapeCrashes returns true, and its arguments read as before. No condition. -/
import Derived.Test.YtmohdnlnbpbfcaaQx30
import Derived.Test.YtmohdnlnbpbfcaaMTape
namespace Go.Proofs.Ytmohdnlnbpbfcaa.Pure
open Go.RowKit Go.Proofs.Ytmohdnlnbpbfcaa.Q Go.Proofs.Ytmohdnlnbpbfcaa.Base Go.Proofs.YtmohdnlnbpbfcaaW.PrintWords Go.Proofs.YtmohdnlnbpbfcaaW.PrintLast Go.Proofs.YtmohdnlnbpbfcaaW.PrintMore
theorem TapeCrashes (x0 : S43) (a1 : Int) (good0 : G43 x0) (w1 : (Lit.int .i64 a1).wf = true) : ∃ k, foretelllaw_TapeCrashes.f k x0.f0 x0.f1 a1 = some true := by
  have hl : x0.f0.length ≤ 140737488351232 := by have := good0.1.1; omega
  obtain ⟨_, w1⟩ := wf_i64 w1
  refine Ev.rounds (g := fun k => foretelllaw_TapeCrashes.f k x0.f0 x0.f1 a1) ?_
  unfold foretelllaw_TapeCrashes.f
  refine ev_call (tapes_eq _ _ hl) ?_
  by_cases h : tapeMay x0.f0 x0.f1
  · by_cases c0 : a1 < 0
    · refine ev_call (a := ([], 0, 2)) (by unfold tape_Crash.f; rw [open_ok h]; simp only [Option.bind_some, if_true, if_pos c0]) ?_
      refine ev_bind (a := ([], 0, 2)) ?_ ?_
      · unfold foretellref_TapeCrashed.f
        refine ev_call (may_ok h) ?_
        exact ev_const (fun k => by simp only [if_true, if_pos c0])
      · exact ev_const (fun k => by simp [sameTape_refl])
    · obtain ⟨h0, h1, h2⟩ := h
      obtain ⟨n, hn⟩ : ∃ n, n = x0.f1 + mn a1 ((x0.f0.length : Int) - x0.f1) := ⟨_, rfl⟩
      refine ev_call (a := (x0.f0.take n.toNat, n, 0)) (by unfold tape_Crash.f; rw [open_ok ⟨h0, h1, h2⟩]; simp only [Option.bind_some, if_true, if_neg c0]; rw [if_pos ⟨h0, h1, by omega⟩, ← hn]) ?_
      refine ev_bind (a := (x0.f0.take n.toNat, n, 0)) ?_ ?_
      · unfold foretellref_TapeCrashed.f
        refine ev_call (may_ok ⟨h0, h1, h2⟩) ?_
        simp only [if_true, if_neg c0, wrap_id (show -9223372036854775808 ≤ (x0.f0.length : Int) - x0.f1 by omega) (by omega)]
        by_cases c1 : a1 < (x0.f0.length : Int) - x0.f1
        · obtain rfl : n = x0.f1 + a1 := by rw [hn]; unfold mn; rw [if_neg (by omega)]
          simp only [if_pos c1, wrap_id (show -9223372036854775808 ≤ x0.f1 + a1 by omega) (by omega)]
          exact ev_bind (octets_ev _ hl _ (by omega) (by omega)) (Ev.now _)
        · obtain rfl : n = (x0.f0.length : Int) := by
            rw [hn]; unfold mn
            by_cases c2 : (x0.f0.length : Int) - x0.f1 < a1
            · rw [if_pos c2]; omega
            · rw [if_neg c2]; omega
          simp only [if_neg c1]
          exact ev_bind (octets_ev _ hl _ (by omega) (by omega)) (Ev.now _)
      · exact ev_const (fun k => by simp [sameTape_refl])
  · refine ev_call (a := ([], 0, 9)) (by unfold tape_Crash.f; rw [open_bad h]; rfl) ?_
    refine ev_bind (a := ([], 0, 9)) ?_ ?_
    · unfold foretellref_TapeCrashed.f
      refine ev_call (may_bad h) ?_
      exact ev_const (fun k => by simp)
    · exact ev_const (fun k => by simp [sameTape_refl])
end Go.Proofs.Ytmohdnlnbpbfcaa.Pure
