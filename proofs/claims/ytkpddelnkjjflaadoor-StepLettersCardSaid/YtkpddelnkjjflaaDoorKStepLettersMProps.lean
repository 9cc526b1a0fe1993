-- Cut by a program of this session (wip/prune.py) from a longer text: declarations that the law does not need are left out.
import Derived.Test.YtkpddelnkjjflaaDoorKStepLettersMModel
import Derived.Test.YtkpddelnkjjflaaDoorKStepLettersMTerms
import Derived.Test.YtkpddelnkjjflaaDoorKStepLettersMx10
import Derived.Test.YtkpddelnkjjflaaDoorKStepLettersMx11
namespace Go.Proofs.YtkpddelnkjjflaaDoor.Pure
open Go.RowKit Go.Proofs.YtkpddelnkjjflaaDoor Go.Proofs.YtkpddelnkjjflaaDoor.M Go.Proofs.YtkpddelnkjjflaaDoor.Base Go.Proofs.YtkpddelnkjjflaaDoorW.PrintWords Go.Proofs.YtkpddelnkjjflaaDoorW.PrintLast Go.Proofs.YtkpddelnkjjflaaDoorW.PrintMore
set_option linter.unusedVariables false
set_option linter.unusedSimpArgs false
def propsL (n : Int) : List (List POp) → Int
 | [] => 0
 | p :: ps => if kindS p n true = 0 then propsL n ps else kindS p n true
def propsS (vs : List PVar) (rs : List PRule) (l : List (List POp)) : Int := if modelS vs rs = 0 then (if 6 < l.length then 1 else propsL (vs.length : Int) l) else modelS vs rs
theorem props_l0 (vs : List PVar) (hv : vs.length ≤ 6) (rs : List PRule) (l : List (List POp)) (hl : l.length ≤ 6) (d : Nat) : ∀ i : Nat, i + d = l.length → Ev (fun k => model_Props.l0 k l (l.length : Int) i vs rs) (propsL (vs.length : Int) (l.drop i)) := by
 induction d with
 | zero =>
  intro i hi
  rw [List.drop_of_length_le (by omega)]
  have c1 : ¬ (i : Int) < (l.length : Int) := by omega
  refine ev_succ ?_
  simp only [model_Props.l0, ↓reduceIte, c1]
  exact Ev.now _
 | succ d ih =>
  intro i hi
  have hil : i < l.length := by omega
  have c1 : (i : Int) < (l.length : Int) := by omega
  have c2 : (0 : Int) ≤ (i : Int) := by omega
  have w1 : wrap64 ((i : Int) + 1) = ((i + 1 : Nat) : Int) := by rw [wrap_id (by omega) (by omega)]; rfl
  refine ev_succ ?_
  simp only [model_Props.l0, ↓reduceIte, c1, c2, rdL_get l i hil, w1]
  rw [List.drop_eq_getElem_cons hil, propsL]
  refine ev_bind (kind_ev l[i] (vs.length : Int) true (by omega)) ?_
  by_cases h3 : kindS l[i] (vs.length : Int) true = 0
  ·simp only [h3, ↓reduceIte]
   exact ih (i + 1) (by omega)
  ·simp only [h3, ↓reduceIte]
   exact Ev.now _
theorem props_ev (vs : List PVar) (rs : List PRule) (l : List (List POp)) : Ev (fun k => model_Props.f k vs rs l) (propsS vs rs l) := by
 unfold model_Props.f propsS
 refine ev_bind (modelCheck_ev vs rs) ?_
 by_cases h : modelS vs rs = 0
 ·simp only [h, ↓reduceIte]
  by_cases h2 : 6 < l.length
  ·have c1 : (l.length : Int) > 6 := by omega
   simp only [h2, c1, ↓reduceIte]
   exact Ev.now _
  ·have c1 : ¬ (l.length : Int) > 6 := by omega
   simp only [h2, c1, ↓reduceIte]
   exact props_l0 vs (modelS_len h) rs l (by omega) l.length 0 (by omega)
 ·simp only [h, ↓reduceIte]
  exact Ev.now _
theorem propsFault_end (e : Int) (he : ¬ e = 0) (i : Nat) (vs : List PVar) (rs : List PRule) (l : List (List POp)) : Ev (fun k => foretellref_PropsFault.l0 k l e i vs rs) e := by
 refine ev_succ ?_
 simp only [foretellref_PropsFault.l0, he, ↓reduceIte, ite_self]
 exact Ev.now _
theorem propsFault_l0 (vs : List PVar) (hv : vs.length ≤ 6) (rs : List PRule) (l : List (List POp)) (hl : l.length ≤ 6) (d : Nat) : ∀ i : Nat, i + d = l.length → Ev (fun k => foretellref_PropsFault.l0 k l 0 i vs rs) (propsL (vs.length : Int) (l.drop i)) := by
 induction d with
 | zero =>
  intro i hi
  rw [List.drop_of_length_le (by omega)]
  have c1 : ¬ (i : Int) < (l.length : Int) := by omega
  refine ev_succ ?_
  simp only [foretellref_PropsFault.l0, ↓reduceIte, c1]
  exact Ev.now _
 | succ d ih =>
  intro i hi
  have hil : i < l.length := by omega
  have c1 : (i : Int) < (l.length : Int) := by omega
  have c2 : (0 : Int) ≤ (i : Int) := by omega
  have w1 : wrap64 ((i : Int) + 1) = ((i + 1 : Nat) : Int) := by rw [wrap_id (by omega) (by omega)]; rfl
  refine ev_succ ?_
  simp only [foretellref_PropsFault.l0, ↓reduceIte, c1, c2, rdL_get l i hil, w1]
  rw [List.drop_eq_getElem_cons hil, propsL]
  refine ev_bind (kindFault_ev l[i] (vs.length : Int) true (by omega)) ?_
  by_cases h3 : kindS l[i] (vs.length : Int) true = 0
  ·simp only [h3, ↓reduceIte]
   exact ih (i + 1) (by omega)
  ·simp only [h3, ↓reduceIte]
   exact propsFault_end _ h3 _ vs rs l
theorem propsFault_ev (vs : List PVar) (rs : List PRule) (l : List (List POp)) : Ev (fun k => foretellref_PropsFault.f k vs rs l) (propsS vs rs l) := by
 unfold foretellref_PropsFault.f propsS
 have j1 : ∀ (e r : Int), Ev (fun k => foretellref_PropsFault.l0 k l e 0 vs rs) r → Ev (fun k => foretellref_PropsFault.j1 k l e vs rs) r := fun e r h => by
  refine ev_succ ?_
  simp only [foretellref_PropsFault.j1]
  exact h
 refine ev_bind (modelFault_ev vs rs) ?_
 by_cases h : modelS vs rs = 0
 ·simp only [h, ↓reduceIte]
  by_cases h2 : 6 < l.length
  ·have c1 : decide ((l.length : Int) > 6) = true := decide_eq_true (by omega)
   simp only [h2, c1, ↓reduceIte]
   refine ev_succ ?_
   simp only [foretellref_PropsFault.j0, ↓reduceIte]
   exact j1 1 1 (propsFault_end 1 (by decide) 0 vs rs l)
  ·have c1 : decide ((l.length : Int) > 6) = false := decide_eq_false (by omega)
   simp only [h2, c1, ↓reduceIte]
   refine ev_succ ?_
   simp only [foretellref_PropsFault.j0, Bool.false_eq_true, ↓reduceIte]
   exact j1 0 _ (propsFault_l0 vs (modelS_len h) rs l (by omega) l.length 0 (by omega))
 ·simp only [h, ↓reduceIte]
  refine ev_succ ?_
  simp only [foretellref_PropsFault.j0, Bool.false_eq_true, ↓reduceIte]
  exact j1 _ _ (propsFault_end _ h 0 vs rs l)
end Go.Proofs.YtkpddelnkjjflaaDoor.Pure
