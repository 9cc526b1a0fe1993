/- Lists of numbers: copies. Plain Lean over the printed functions. -/
import Derived.Test.YtkpddelnkjjflaaDoorBase
import Derived.Test.YtkpddelnkjjflaaDoorMx15
namespace Go.Proofs.YtkpddelnkjjflaaDoor.Pure
open Go.RowKit Go.Proofs.YtkpddelnkjjflaaDoor Go.Proofs.YtkpddelnkjjflaaDoor.M Go.Proofs.YtkpddelnkjjflaaDoor.Base Go.Proofs.YtkpddelnkjjflaaDoorW.PrintWords Go.Proofs.YtkpddelnkjjflaaDoorW.PrintLast Go.Proofs.YtkpddelnkjjflaaDoorW.PrintMore
set_option linter.unusedVariables false
set_option linter.unusedSimpArgs false
theorem ints_eq (l : List Int) (h : l.length * 8 ≤ 140737488351232) : foretelllaw_ints.f l = some l := by
  unfold foretelllaw_ints.f
  rw [if_pos (by simp; omega), List.nil_append]
end Go.Proofs.YtkpddelnkjjflaaDoor.Pure
