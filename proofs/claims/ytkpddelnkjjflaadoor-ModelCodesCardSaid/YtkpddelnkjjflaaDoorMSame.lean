/- What the laws' own copies and comparisons come to: a list is the same as itself. Plain Lean over the printed functions. -/
import Derived.Test.YtkpddelnkjjflaaDoorMx11
import Derived.Test.YtkpddelnkjjflaaDoorBase
namespace Go.Proofs.YtkpddelnkjjflaaDoor.Pure
open Go.RowKit Go.Proofs.YtkpddelnkjjflaaDoor Go.Proofs.YtkpddelnkjjflaaDoor.M Go.Proofs.YtkpddelnkjjflaaDoor.Base Go.Proofs.YtkpddelnkjjflaaDoorW.PrintWords Go.Proofs.YtkpddelnkjjflaaDoorW.PrintLast Go.Proofs.YtkpddelnkjjflaaDoorW.PrintMore
set_option linter.unusedVariables false
theorem sameInts_loop (l : List Int) (hl : l.length ≤ 9223372036854775807) (d : Nat) : ∀ i : Nat, i + d = l.length → Ev (fun k => foretelllaw_sameInts.l0 k l l i) true := by
  induction d with
  | zero => exact fun i hi => ev_now (fun k => by simp (disch := omega) only [foretelllaw_sameInts.l0, if_neg])
  | succ d ih =>
    intro i hi
    refine Ev.step (fun k => ?_) (ih (i + 1) (by omega))
    simp (disch := omega) only [foretelllaw_sameInts.l0, if_pos, if_true, wrap_id]
    rfl
theorem sameInts_refl (l : List Int) (hl : l.length ≤ 9223372036854775807) : Ev (fun k => foretelllaw_sameInts.f k l l) true := by
  unfold foretelllaw_sameInts.f
  simp only [if_true]
  exact sameInts_loop l hl l.length 0 (by omega)
end Go.Proofs.YtkpddelnkjjflaaDoor.Pure
