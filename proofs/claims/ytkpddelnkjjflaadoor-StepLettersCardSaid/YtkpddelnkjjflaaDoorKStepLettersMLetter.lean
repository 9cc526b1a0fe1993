-- Cut by a program of this session (wip/prune.py) from a longer text: declarations that the law does not need are left out.
import Derived.Test.YtkpddelnkjjflaaDoorKStepLettersMProps
import Derived.Test.YtkpddelnkjjflaaDoorKStepLettersMValues
import Derived.Test.YtkpddelnkjjflaaDoorKStepLettersMWorked
import Derived.Test.YtkpddelnkjjflaaDoorKStepLettersMx11
import Derived.Test.YtkpddelnkjjflaaDoorKStepLettersMx12
namespace Go.Proofs.YtkpddelnkjjflaaDoor.Pure
open Go.RowKit Go.Proofs.YtkpddelnkjjflaaDoor Go.Proofs.YtkpddelnkjjflaaDoor.M Go.Proofs.YtkpddelnkjjflaaDoor.Base Go.Proofs.YtkpddelnkjjflaaDoorW.PrintWords Go.Proofs.YtkpddelnkjjflaaDoorW.PrintLast Go.Proofs.YtkpddelnkjjflaaDoorW.PrintMore
set_option linter.unusedVariables false
set_option linter.unusedSimpArgs false
def yesS (env : List Int) (p : List POp) : Bool := if (evalS p env).2 = 0 then (evalS p env).1 == 1 else false
def letterS (vs : List PVar) (rs : List PRule) (ps : List (List POp)) (c : Int) : List Bool × Int := if propsS vs rs ps = 0 then (if (valuesS vs rs c).2 = 0 then (ps.map (yesS (valuesS vs rs c).1), 0) else ([], (valuesS vs rs c).2)) else ([], propsS vs rs ps)
theorem propsS_len {vs : List PVar} {rs : List PRule} {ps : List (List POp)} (h : propsS vs rs ps = 0) : ps.length ≤ 6 := by
 unfold propsS at h
 split at h
 ·split at h <;> omega
 ·rename_i h1; exact absurd h h1
theorem letter_l0 (env : List Int) (ps : List (List POp)) (hp : ps.length ≤ 6) (d : Nat) : ∀ (i : Nat) (acc : List Bool), i + d = ps.length → acc.length = ps.length → Ev (fun k => step_Letter.l0 k env acc ps (ps.length : Int) i) (acc.take i ++ (ps.drop i).map (yesS env), 0) := by
 induction d with
 | zero =>
  intro i acc hi ha
  rw [List.drop_of_length_le (by omega), List.take_of_length_le (by omega), List.map_nil, List.append_nil]
  have c1 : ¬ (i : Int) < (ps.length : Int) := by omega
  refine ev_succ ?_
  simp only [step_Letter.l0, ↓reduceIte, c1]
  exact Ev.now _
 | succ d ih =>
  intro i acc hi ha
  have hil : i < ps.length := by omega
  have c1 : (i : Int) < (ps.length : Int) := by omega
  have c2 : (0 : Int) ≤ (i : Int) := by omega
  have c3 : (i : Int) < (acc.length : Int) := by omega
  have w1 : wrap64 ((i : Int) + 1) = ((i + 1 : Nat) : Int) := by rw [wrap_id (by omega) (by omega)]; rfl
  have he : expr_Eval.f ps[i] env = some (evalS ps[i] env) := rfl
  have key : ∀ b : Bool, b = yesS env ps[i] → Ev (fun k => step_Letter.l0 k env (acc.set i b) ps (ps.length : Int) ((i + 1 : Nat) : Int)) (acc.take i ++ (ps.drop i).map (yesS env), 0) := by
   intro b hb
   refine ev_eq (ih (i + 1) (acc.set i b) (by omega) (by rw [List.length_set]; exact ha)) ?_
   rw [List.drop_eq_getElem_cons hil, List.map_cons, ← hb]
   have hlt : i < (acc.set i b).length := by rw [List.length_set]; omega
   rw [List.take_succ_eq_append_getElem hlt, List.getElem_set_self, List.take_set_of_le (Nat.le_refl _), List.append_assoc]
   rfl
  refine ev_succ ?_
  simp only [step_Letter.l0, ↓reduceIte, c1, c2, rdL_get ps i hil, he, x_bind]
  by_cases h : (evalS ps[i] env).2 = 0
  ·simp only [h, ↓reduceIte, c3, w1, Int.toNat_natCast]
   exact key _ (by unfold yesS; rw [if_pos h])
  ·simp only [h, ↓reduceIte, c3, w1, Int.toNat_natCast]
   exact key _ (by unfold yesS; rw [if_neg h])
theorem letter_ev (vs : List PVar) (rs : List PRule) (ps : List (List POp)) (c : Int) : Ev (fun k => step_Letter.f k vs rs ps c) (letterS vs rs ps c) := by
 unfold step_Letter.f letterS
 refine ev_bind (props_ev vs rs ps) ?_
 by_cases h : propsS vs rs ps = 0
 ·have hp := propsS_len h
  simp only [h, ↓reduceIte]
  refine ev_bind (values_ev vs rs c) ?_
  by_cases h2 : (valuesS vs rs c).2 = 0
  ·have c1 : (0 : Int) ≤ (ps.length : Int) := by omega
   have c2 : (ps.length : Int).toNat ≤ 281474976710656 := by omega
   simp only [h2, c1, c2, ↓reduceIte]
   exact letter_l0 _ ps hp ps.length 0 _ (by omega) (by simp)
  ·simp only [h2, ↓reduceIte]
   exact Ev.now _
 ·simp only [h, ↓reduceIte]
  exact Ev.now _
theorem letterOf_l0 (env : List Int) (he : env.length ≤ 6) (ps : List (List POp)) (hp : ps.length ≤ 6) (d : Nat) : ∀ (i : Nat), i + d = ps.length → Ev (fun k => foretellref_LetterOf.l0 k ps env ((ps.take i).map (yesS env)) i) (ps.map (yesS env), 0) := by
 induction d with
 | zero =>
  intro i hi
  rw [List.take_of_length_le (by omega)]
  have c1 : ¬ (i : Int) < (ps.length : Int) := by omega
  refine ev_succ ?_
  simp only [foretellref_LetterOf.l0, ↓reduceIte, c1]
  exact Ev.now _
 | succ d ih =>
  intro i hi
  have hil : i < ps.length := by omega
  have c1 : (i : Int) < (ps.length : Int) := by omega
  have c2 : (0 : Int) ≤ (i : Int) := by omega
  have c3 : ((ps.take i).map (yesS env)).length < 140737488355328 := by rw [List.length_map, List.length_take]; omega
  have w1 : wrap64 ((i : Int) + 1) = ((i + 1 : Nat) : Int) := by rw [wrap_id (by omega) (by omega)]; rfl
  have h := ih (i + 1) (by omega)
  rw [List.take_succ_eq_append_getElem hil, List.map_append, List.map_cons, List.map_nil] at h
  refine ev_succ ?_
  simp only [foretellref_LetterOf.l0, ↓reduceIte, c1, c2, rdL_get ps i hil]
  refine ev_bind (evaluated_ev ps[i] env (by omega)) ?_
  by_cases h2 : (evalS ps[i] env).2 = 0
  ·have e : yesS env ps[i] = ((evalS ps[i] env).1 == 1) := by unfold yesS; rw [if_pos h2]
   rw [e] at h
   simp only [h2, c3, w1, ↓reduceIte]
   exact h
  ·have e : yesS env ps[i] = false := by unfold yesS; rw [if_neg h2]
   rw [e] at h
   simp only [h2, c3, w1, ↓reduceIte]
   exact h
theorem letterOf_ev (vs : List PVar) (rs : List PRule) (ps : List (List POp)) (c : Int) : Ev (fun k => foretellref_LetterOf.f k vs rs ps c) (letterS vs rs ps c) := by
 unfold foretellref_LetterOf.f letterS
 refine ev_bind (propsFault_ev vs rs ps) ?_
 by_cases h : propsS vs rs ps = 0
 ·have hp := propsS_len h
  simp only [h, ↓reduceIte]
  refine ev_bind (valuesOf_ev vs rs c) ?_
  by_cases h2 : (valuesS vs rs c).2 = 0
  ·simp only [h2, ↓reduceIte]
   exact letterOf_l0 _ (valuesS_len vs rs c) ps hp ps.length 0 (by omega)
  ·simp only [h2, ↓reduceIte]
   exact Ev.now _
 ·simp only [h, ↓reduceIte]
  exact Ev.now _
theorem letterS_len (vs : List PVar) (rs : List PRule) (ps : List (List POp)) (c : Int) : (letterS vs rs ps c).1.length ≤ 6 := by
 unfold letterS
 split
 ·rename_i h
  split
  ·show (ps.map _).length ≤ 6
   rw [List.length_map]; exact propsS_len h
  ·exact Nat.zero_le _
 ·exact Nat.zero_le _
end Go.Proofs.YtkpddelnkjjflaaDoor.Pure
