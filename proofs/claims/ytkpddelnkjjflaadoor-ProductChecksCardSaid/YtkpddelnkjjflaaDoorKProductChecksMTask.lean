-- Cut by a program of this session (wip/prune.py) from a longer text: declarations that the law does not need are left out.
import Derived.Test.YtkpddelnkjjflaaDoorKProductChecksMCopies
import Derived.Test.YtkpddelnkjjflaaDoorKProductChecksMTerms
import Derived.Test.YtkpddelnkjjflaaDoorKProductChecksMSameModel
import Derived.Test.YtkpddelnkjjflaaDoorKProductChecksMProps
import Derived.Test.YtkpddelnkjjflaaDoorKProductChecksMLogic
import Derived.Test.YtkpddelnkjjflaaDoorKProductChecksMx20
import Derived.Test.YtkpddelnkjjflaaDoorKProductChecksMx20
import Derived.Test.YtkpddelnkjjflaaDoorKProductChecksMx20
import Derived.Test.YtkpddelnkjjflaaDoorKProductChecksMx20
namespace Go.Proofs.YtkpddelnkjjflaaDoor.Pure
open Go.RowKit Go.Proofs.YtkpddelnkjjflaaDoor Go.Proofs.YtkpddelnkjjflaaDoor.M Go.Proofs.YtkpddelnkjjflaaDoor.Base Go.Proofs.YtkpddelnkjjflaaDoorW.PrintWords Go.Proofs.YtkpddelnkjjflaaDoorW.PrintLast Go.Proofs.YtkpddelnkjjflaaDoorW.PrintMore
set_option linter.unusedVariables false
set_option linter.unusedSimpArgs false
theorem tasks_ev (x : S47) (h : G47 x) : Ev (fun k => foretelllaw_tasks.f k x.f0.f0 x.f0.f1 x.f1 x.f2) (x.f0.f0, x.f0.f1, x.f1, x.f2) := by
  obtain ⟨h0, ⟨h1, h1'⟩, h2, _⟩ := h
  unfold foretelllaw_tasks.f
  exact ev_bind (models_ev x.f0 h0) (ev_bind (terms_ev x.f1 h1 (fun y hy => (h1' y hy).1)) (ev_call (ops_eq x.f2 h2) (Ev.now _)))
theorem sameTerms_l0 (l : List (List POp)) (hl : l.length ≤ 4611686018427387904) (ho : ∀ x ∈ l, x.length ≤ 4611686018427387904) (d : Nat) : ∀ i : Nat, i + d = l.length → Ev (fun k => foretelllaw_sameTerms.l0 k l l i) true := by
  induction d with
  | zero =>
    intro i hi
    have c1 : ¬ (i : Int) < (l.length : Int) := by omega
    refine ev_succ ?_
    simp only [foretelllaw_sameTerms.l0, ↓reduceIte, c1]
    exact Ev.now _
  | succ d ih =>
    intro i hi
    have hil : i < l.length := by omega
    have c1 : (i : Int) < (l.length : Int) := by omega
    have c2 : (0 : Int) ≤ (i : Int) := by omega
    have w1 : wrap64 ((i : Int) + 1) = ((i + 1 : Nat) : Int) := by rw [wrap_id (by omega) (by omega)]; rfl
    refine ev_succ ?_
    simp only [foretelllaw_sameTerms.l0, ↓reduceIte, c1, c2, w1, rdL_get l i hil]
    refine ev_bind (sameOps_refl l[i] (by have := ho _ (List.getElem_mem hil); omega)) ?_
    simp only [↓reduceIte]
    exact ih (i + 1) (by omega)
theorem sameTask_ev (x : S47) (h : G47 x) : Ev (fun k => foretelllaw_sameTask.f k x.f0.f0 x.f0.f1 x.f1 x.f2 x.f0.f0 x.f0.f1 x.f1 x.f2) true := by
  obtain ⟨h0, ⟨h1, h1'⟩, h2, _⟩ := h
  unfold foretelllaw_sameTask.f
  refine ev_bind (sameModel_ev x.f0 h0) ?_
  simp only [↓reduceIte]
  refine ev_bind (a := true) ?_ ?_
  · unfold foretelllaw_sameTerms.f
    simp only [↓reduceIte]
    exact sameTerms_l0 x.f1 (by omega) (fun y hy => by have := (h1' y hy).1; omega) x.f1.length 0 (by omega)
  · simp only [↓reduceIte]
    exact ev_bind (sameOps_refl x.f2 (by omega)) (Ev.now _)
def taskS (vs : List PVar) (rs : List PRule) (ps : List (List POp)) (f : List POp) : Int := if propsS vs rs ps = 0 then checkS f (ps.length : Int) else propsS vs rs ps
theorem taskCheck_ev (vs : List PVar) (rs : List PRule) (ps : List (List POp)) (f : List POp) : Ev (fun k => product_Check.f k vs rs ps f) (taskS vs rs ps f) := by
  unfold product_Check.f taskS
  refine ev_bind (props_ev vs rs ps) ?_
  by_cases h : propsS vs rs ps = 0
  · simp only [h, ↓reduceIte]
    exact ev_bind (check_ev f (ps.length : Int)) (Ev.now _)
  · simp only [h, ↓reduceIte]
    exact Ev.now _
theorem taskFault_ev (vs : List PVar) (rs : List PRule) (ps : List (List POp)) (f : List POp) : Ev (fun k => foretellref_TaskFault.f k vs rs ps f) (taskS vs rs ps f) := by
  unfold foretellref_TaskFault.f taskS
  refine ev_bind (propsFault_ev vs rs ps) ?_
  by_cases h : propsS vs rs ps = 0
  · simp only [h, ↓reduceIte]
    exact ev_bind (formulaFault_ev f (ps.length : Int)) (Ev.now _)
  · simp only [h, ↓reduceIte]
    exact Ev.now _
end Go.Proofs.YtkpddelnkjjflaaDoor.Pure
