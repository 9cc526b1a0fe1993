-- Cut by a program of this session (wip/prune.py) from a longer text: declarations that the law does not need are left out.
import Derived.Test.YtkpddelnkjjflaaDoorKProductChecksMx9
import Derived.Test.YtkpddelnkjjflaaDoorKProductChecksMScan
namespace Go.Proofs.YtkpddelnkjjflaaDoor.Pure
open Go.RowKit Go.Proofs.YtkpddelnkjjflaaDoor Go.Proofs.YtkpddelnkjjflaaDoor.M Go.Proofs.YtkpddelnkjjflaaDoor.Base Go.Proofs.YtkpddelnkjjflaaDoorW.PrintWords Go.Proofs.YtkpddelnkjjflaaDoorW.PrintLast Go.Proofs.YtkpddelnkjjflaaDoorW.PrintMore
set_option linter.unusedVariables false
theorem sameOps_loop (l : List POp) (hl : l.length ≤ 9223372036854775807) (d : Nat) : ∀ i : Nat, i + d = l.length → Ev (fun k => foretelllaw_sameOps.l0 k l l i) true := by
  induction d with
  | zero => exact fun i hi => ev_now (fun k => by simp (disch := omega) only [foretelllaw_sameOps.l0, if_neg])
  | succ d ih =>
    intro i hi
    refine Ev.step (fun k => ?_) (ih (i + 1) (by omega))
    simp (disch := omega) only [foretelllaw_sameOps.l0, if_pos, beq_self_eq_true, Bool.not_true, Bool.or_self, Bool.false_eq_true, if_false, wrap_id]
    rfl
theorem sameOps_refl (l : List POp) (hl : l.length ≤ 9223372036854775807) : Ev (fun k => foretelllaw_sameOps.f k l l) true := by
  unfold foretelllaw_sameOps.f
  simp only [if_true]
  exact sameOps_loop l hl l.length 0 (by omega)
end Go.Proofs.YtkpddelnkjjflaaDoor.Pure
