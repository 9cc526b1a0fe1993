-- Cut by a program of this session (wip/prune.py) from a longer text: declarations that the law does not need are left out.
import Derived.Test.YtkpddelnkjjflaaDoorKStepLettersMx12
import Derived.Test.YtkpddelnkjjflaaDoorKStepLettersMCopies
import Derived.Test.YtkpddelnkjjflaaDoorKStepLettersMTerms
import Derived.Test.YtkpddelnkjjflaaDoorKStepLettersMLetter
import Derived.Test.YtkpddelnkjjflaaDoorKStepLettersMSameT
namespace Go.Proofs.YtkpddelnkjjflaaDoor.Pure
open Go.RowKit Go.Proofs.YtkpddelnkjjflaaDoor Go.Proofs.YtkpddelnkjjflaaDoor.M Go.Proofs.YtkpddelnkjjflaaDoor.Base Go.Proofs.YtkpddelnkjjflaaDoorW.PrintWords Go.Proofs.YtkpddelnkjjflaaDoorW.PrintLast Go.Proofs.YtkpddelnkjjflaaDoorW.PrintMore
set_option linter.unusedVariables false
set_option linter.unusedSimpArgs false
theorem StepLetters (x0 : S25) (x1 : List (List (S94))) (a2 : Int) (good0 : G25 x0) (good1 : (x1.length * 24 ≤ 140737488351232 ∧ ∀ zx1 ∈ x1, (zx1.length * 16 ≤ 140737488351232 ∧ ∀ zzx1 ∈ zx1, G94 zzx1))) (w2 : (Lit.int .i64 a2).wf = true) : ∃ k, foretelllaw_StepLetters.f k x0.f0 x0.f1 x1 a2 = some true := by
 refine Ev.rounds (g := fun k => foretelllaw_StepLetters.f k x0.f0 x0.f1 x1 a2) ?_
 unfold foretelllaw_StepLetters.f
 refine ev_bind (models_ev x0 good0) (ev_bind (terms_ev x1 good1.1 (fun x hx => (good1.2 x hx).1)) (ev_bind (letter_ev x0.f0 x0.f1 x1 a2) (ev_bind (letterOf_ev x0.f0 x0.f1 x1 a2) ?_)))
 simp only [↓reduceIte]
 exact ev_bind (sameTruths_refl _ (by have := letterS_len x0.f0 x0.f1 x1 a2; omega)) (Ev.now _)
end Go.Proofs.YtkpddelnkjjflaaDoor.Pure
