/- The first state. Plain Lean over the printed functions. -/
import Derived.Test.YtkpddelnkjjflaaDoorMCode
import Derived.Test.YtkpddelnkjjflaaDoorMx17
import Derived.Test.YtkpddelnkjjflaaDoorMx17
namespace Go.Proofs.YtkpddelnkjjflaaDoor.Pure
open Go.RowKit Go.Proofs.YtkpddelnkjjflaaDoor Go.Proofs.YtkpddelnkjjflaaDoor.M Go.Proofs.YtkpddelnkjjflaaDoor.Base Go.Proofs.YtkpddelnkjjflaaDoorW.PrintWords Go.Proofs.YtkpddelnkjjflaaDoorW.PrintLast Go.Proofs.YtkpddelnkjjflaaDoorW.PrintMore
set_option linter.unusedVariables false
set_option linter.unusedSimpArgs false
/-! ### the first state -/
def firstS (vs : List PVar) (rs : List PRule) : Int × Int := codeS vs rs (vs.map (·.f3))
theorem first_l0 (vs : List PVar) (rs : List PRule) (hv : vs.length ≤ 3518437208883) (d : Nat) : ∀ i : Nat, i + d = vs.length → Ev (fun k => model_First.l0 k ((vs.take i).map (·.f3)) vs (vs.length : Int) i vs rs) (firstS vs rs) := by
 induction d with
 | zero =>
  intro i hi
  rw [List.take_of_length_le (by omega)]
  have c1 : ¬ (i : Int) < (vs.length : Int) := by omega
  refine ev_succ ?_
  simp only [model_First.l0, ↓reduceIte, c1]
  exact ev_bind (code_ev vs rs _) (Ev.now _)
 | succ d ih =>
  intro i hi
  have hil : i < vs.length := by omega
  have c1 : (i : Int) < (vs.length : Int) := by omega
  have c2 : (0 : Int) ≤ (i : Int) := by omega
  have c3 : ((vs.take i).map (·.f3)).length < 17592186044416 := by rw [List.length_map, List.length_take]; omega
  have w1 : wrap64 ((i : Int) + 1) = ((i + 1 : Nat) : Int) := by rw [wrap_id (by omega) (by omega)]; rfl
  have h := ih (i + 1) (by omega)
  rw [List.take_succ_eq_append_getElem hil, List.map_append] at h
  refine ev_succ ?_
  simp only [model_First.l0, ↓reduceIte, c1, c2, c3, w1, rdV_get vs i hil]
  exact h
theorem first_ev (vs : List PVar) (rs : List PRule) (hv : vs.length ≤ 3518437208883) : Ev (fun k => model_First.f k vs rs) (firstS vs rs) := first_l0 vs rs hv vs.length 0 (by omega)
theorem firstCode_l0 (vs : List PVar) (rs : List PRule) (hv : vs.length ≤ 3518437208883) (d : Nat) : ∀ i : Nat, i + d = vs.length → Ev (fun k => foretellref_FirstCode.l0 k ((vs.take i).map (·.f3)) i vs rs) (firstS vs rs) := by
 induction d with
 | zero =>
  intro i hi
  rw [List.take_of_length_le (by omega)]
  have c1 : ¬ (i : Int) < (vs.length : Int) := by omega
  refine ev_succ ?_
  simp only [foretellref_FirstCode.l0, ↓reduceIte, c1]
  exact ev_bind (codeOf_ev vs rs _) (Ev.now _)
 | succ d ih =>
  intro i hi
  have hil : i < vs.length := by omega
  have c1 : (i : Int) < (vs.length : Int) := by omega
  have c2 : (0 : Int) ≤ (i : Int) := by omega
  have c3 : ((vs.take i).map (·.f3)).length < 17592186044416 := by rw [List.length_map, List.length_take]; omega
  have w1 : wrap64 ((i : Int) + 1) = ((i + 1 : Nat) : Int) := by rw [wrap_id (by omega) (by omega)]; rfl
  have h := ih (i + 1) (by omega)
  rw [List.take_succ_eq_append_getElem hil, List.map_append] at h
  refine ev_succ ?_
  simp only [foretellref_FirstCode.l0, ↓reduceIte, c1, c2, c3, w1, rdV_get vs i hil]
  exact h
theorem firstCode_ev (vs : List PVar) (rs : List PRule) (hv : vs.length ≤ 3518437208883) : Ev (fun k => foretellref_FirstCode.f k vs rs) (firstS vs rs) := firstCode_l0 vs rs hv vs.length 0 (by omega)
end Go.Proofs.YtkpddelnkjjflaaDoor.Pure
