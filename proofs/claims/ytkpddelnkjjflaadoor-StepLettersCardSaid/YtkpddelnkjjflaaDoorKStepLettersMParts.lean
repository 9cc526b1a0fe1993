-- Cut by a program of this session (wip/prune.py) from a longer text: declarations that the law does not need are left out.
import Derived.Test.YtkpddelnkjjflaaDoorKStepLettersMx2
import Derived.Test.YtkpddelnkjjflaaDoorKStepLettersMx4
import Derived.Test.YtkpddelnkjjflaaDoorKStepLettersMScan
namespace Go.Proofs.YtkpddelnkjjflaaDoor.Pure
open Go.RowKit Go.Proofs.YtkpddelnkjjflaaDoor Go.Proofs.YtkpddelnkjjflaaDoor.M Go.Proofs.YtkpddelnkjjflaaDoor.Base Go.Proofs.YtkpddelnkjjflaaDoorW.PrintWords Go.Proofs.YtkpddelnkjjflaaDoorW.PrintLast Go.Proofs.YtkpddelnkjjflaaDoorW.PrintMore
set_option linter.unusedVariables false
theorem partsOf_ev (a : Int) : Ev (fun k => foretellref_PartsOf.f k a) (partsS a) := by
 by_cases h : a < 1 ∨ 18 < a
 ·have e : ∀ n : Int, 1 ≤ n → n ≤ 18 → (a == n) = false := fun n h0 h1 => by rw [beq_eq_false_iff_ne]; omega
  unfold partsS
  rw [if_pos h]
  refine ev_nows 2 (fun k => ?_)
  simp (disch := omega) only [foretellref_PartsOf.f, foretellref_PartsOf.j0, foretellref_PartsOf.j1, if_neg, e, Bool.false_eq_true, if_false]
 ·have : a = 1 ∨ a = 2 ∨ a = 3 ∨ a = 4 ∨ a = 5 ∨ a = 6 ∨ a = 7 ∨ a = 8 ∨ a = 9 ∨ a = 10 ∨ a = 11 ∨ a = 12 ∨ a = 13 ∨ a = 14 ∨ a = 15 ∨ a = 16 ∨ a = 17 ∨ a = 18 := by omega
  rcases this with rfl | rfl | rfl | rfl | rfl | rfl | rfl | rfl | rfl | rfl | rfl | rfl | rfl | rfl | rfl | rfl | rfl | rfl <;> exact ev_nows 2 (fun k => rfl)
end Go.Proofs.YtkpddelnkjjflaaDoor.Pure
