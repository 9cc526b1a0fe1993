-- Cut by a program of this session (wip/prune.py) from a longer text: declarations that the law does not need are left out.
import Derived.Test.YtkpddelnkjjflaaDoorKStepLettersMx12
import Derived.Test.YtkpddelnkjjflaaDoorKStepLettersMEv
namespace Go.Proofs.YtkpddelnkjjflaaDoor.Pure
open Go.RowKit Go.Proofs.YtkpddelnkjjflaaDoor Go.Proofs.YtkpddelnkjjflaaDoor.M Go.Proofs.YtkpddelnkjjflaaDoor.Base Go.Proofs.YtkpddelnkjjflaaDoorW.PrintWords Go.Proofs.YtkpddelnkjjflaaDoorW.PrintLast Go.Proofs.YtkpddelnkjjflaaDoorW.PrintMore
set_option linter.unusedVariables false
set_option linter.unusedSimpArgs false
theorem sameTruths_refl (r : List Bool) (hr : r.length ≤ 4611686018427387904) : Ev (fun k => foretelllaw_sameTruths.f k r r) true := by
 have loop : ∀ (d j : Nat), j + d = r.length → Ev (fun k => foretelllaw_sameTruths.l0 k r r j) true := by
  intro d
  induction d with
  | zero =>
   intro j hj
   have c1 : ¬ (j : Int) < (r.length : Int) := by omega
   refine ev_succ ?_
   simp only [foretelllaw_sameTruths.l0, ↓reduceIte, c1]
   exact Ev.now _
  | succ d ih =>
   intro j hj
   have c1 : (j : Int) < (r.length : Int) := by omega
   have c2 : (0 : Int) ≤ (j : Int) := by omega
   have w1 : wrap64 ((j : Int) + 1) = ((j + 1 : Nat) : Int) := by rw [wrap_id (by omega) (by omega)]; rfl
   refine ev_succ ?_
   simp only [foretelllaw_sameTruths.l0, ↓reduceIte, c1, c2, w1, bne_self_eq_false, Bool.false_eq_true]
   exact ih (j + 1) (by omega)
 unfold foretelllaw_sameTruths.f
 simp only [↓reduceIte]
 exact loop r.length 0 (by omega)
end Go.Proofs.YtkpddelnkjjflaaDoor.Pure
