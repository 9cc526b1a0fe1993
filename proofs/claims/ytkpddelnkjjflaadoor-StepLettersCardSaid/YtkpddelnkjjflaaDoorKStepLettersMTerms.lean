-- Cut by a program of this session (wip/prune.py) from a longer text: declarations that the law does not need are left out.
import Derived.Test.YtkpddelnkjjflaaDoorKStepLettersMOps
import Derived.Test.YtkpddelnkjjflaaDoorKStepLettersMEv
import Derived.Test.YtkpddelnkjjflaaDoorKStepLettersMx10
namespace Go.Proofs.YtkpddelnkjjflaaDoor.Pure
open Go.RowKit Go.Proofs.YtkpddelnkjjflaaDoor Go.Proofs.YtkpddelnkjjflaaDoor.M Go.Proofs.YtkpddelnkjjflaaDoor.Base Go.Proofs.YtkpddelnkjjflaaDoorW.PrintWords Go.Proofs.YtkpddelnkjjflaaDoorW.PrintLast Go.Proofs.YtkpddelnkjjflaaDoorW.PrintMore
set_option linter.unusedVariables false
set_option linter.unusedSimpArgs false
theorem rdL_get (l : List (List POp)) (i : Nat) (h : i < l.length) : rd_L4 l (i : Int) = l[i] := by unfold rd_L4; simp [h]
theorem terms_l0 (l : List (List POp)) (hl : l.length * 24 ≤ 140737488351232) (ho : ∀ x ∈ l, x.length * 16 ≤ 140737488351232) (d : Nat) : ∀ (i : Nat) (acc : List (List POp)), i + d = l.length → acc = l.take i → Ev (fun k => foretelllaw_terms.l0 k l acc i) l := by
 induction d with
 | zero =>
  intro i acc hi ha
  rw [List.take_of_length_le (by omega)] at ha
  subst ha
  have c1 : ¬ (i : Int) < (acc.length : Int) := by omega
  refine ev_succ ?_
  simp only [foretelllaw_terms.l0, ↓reduceIte, c1]
  exact Ev.now _
 | succ d ih =>
  intro i acc hi ha
  have hil : i < l.length := by omega
  have c1 : (i : Int) < (l.length : Int) := by omega
  have c2 : (0 : Int) ≤ (i : Int) := by omega
  have c5 : acc.length < 5864062014805 := by rw [ha, List.length_take]; omega
  have w1 : wrap64 ((i : Int) + 1) = ((i + 1 : Nat) : Int) := by rw [wrap_id (by omega) (by omega)]; rfl
  refine ev_succ ?_
  simp only [foretelllaw_terms.l0, ↓reduceIte, c1, c2, c5, w1, rdL_get l i hil, ops_eq l[i] (ho _ (List.getElem_mem hil)), Option.bind_some]
  exact ih (i + 1) _ (by omega) (by rw [List.take_succ_eq_append_getElem hil, ha])
theorem terms_ev (l : List (List POp)) (hl : l.length * 24 ≤ 140737488351232) (ho : ∀ x ∈ l, x.length * 16 ≤ 140737488351232) : Ev (fun k => foretelllaw_terms.f k l) l := terms_l0 l hl ho l.length 0 [] (by omega) rfl
end Go.Proofs.YtkpddelnkjjflaaDoor.Pure
