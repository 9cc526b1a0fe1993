-- Cut by a program of this session (wip/prune.py) from a longer text: declarations that the law does not need are left out.
import Derived.Test.YtkpddelnkjjflaaDoorKStepLettersMBehind
import Derived.Test.YtkpddelnkjjflaaDoorKStepLettersMx7
import Derived.Test.YtkpddelnkjjflaaDoorKStepLettersMx7
namespace Go.Proofs.YtkpddelnkjjflaaDoor.Pure
open Go.RowKit Go.Proofs.YtkpddelnkjjflaaDoor Go.Proofs.YtkpddelnkjjflaaDoor.M Go.Proofs.YtkpddelnkjjflaaDoor.Base Go.Proofs.YtkpddelnkjjflaaDoorW.PrintWords Go.Proofs.YtkpddelnkjjflaaDoorW.PrintLast Go.Proofs.YtkpddelnkjjflaaDoorW.PrintMore
set_option linter.unusedVariables false
set_option linter.unusedSimpArgs false
theorem count_l0 (vs : List PVar) (hv : vs.length ≤ 6) (ho : ∀ v ∈ vs, VOk v) (d : Nat) : ∀ (i : Nat) (a : Int), i + d = vs.length → 1 ≤ a → a * prodV (vs.drop i) ≤ 4096 → Ev (fun k => model_Count.l0 k a vs (vs.length : Int) i) (a * prodV (vs.drop i), 0) := by
 induction d with
 | zero =>
  intro i a hi ha hp
  rw [List.drop_of_length_le (by omega)]
  have c1 : ¬ (i : Int) < (vs.length : Int) := by omega
  refine ev_succ ?_
  simp only [model_Count.l0, ↓reduceIte, c1, prodV, Int.mul_one]
  exact Ev.now _
 | succ d ih =>
  intro i a hi ha hp
  have hil : i < vs.length := by omega
  have c1 : (i : Int) < (vs.length : Int) := by omega
  have c2 : (0 : Int) ≤ (i : Int) := by omega
  have w1 : wrap64 ((i : Int) + 1) = ((i + 1 : Nat) : Int) := by rw [wrap_id (by omega) (by omega)]; rfl
  have hvi := ho _ (List.getElem_mem hil)
  rw [List.drop_eq_getElem_cons hil] at hp ⊢
  obtain ⟨p1, p2, p3⟩ := part_prod ha hvi (drop_ok ho _) hp
  have w2 : wrap64 (a * (vs[i].f2 - vs[i].f1 + 1)) = a * (vs[i].f2 - vs[i].f1 + 1) := wrap_id (by omega) (by omega)
  refine ev_succ ?_
  simp only [model_Count.l0, ↓reduceIte, c1, c2, rdV_get vs i hil, w1, span_wrap hvi, w2]
  rw [prodV_cons, ← Int.mul_assoc]
  exact ih (i + 1) _ (by omega) p1 p3
def countS (vs : List PVar) (rs : List PRule) : Int × Int := if modelS vs rs = 0 then (prodV vs, 0) else (0, modelS vs rs)
theorem count_ev (vs : List PVar) (rs : List PRule) : Ev (fun k => model_Count.f k vs rs) (countS vs rs) := by
 unfold model_Count.f countS
 refine ev_bind (modelCheck_ev vs rs) ?_
 by_cases h : modelS vs rs = 0
 ·obtain ⟨ho, hp⟩ := vars_ok (modelS_vars h)
  simp only [h, ↓reduceIte]
  have := count_l0 vs (modelS_len h) ho vs.length 0 1 (by omega) (by decide) (by rw [Int.one_mul]; exact hp)
  rw [Int.one_mul] at this
  exact this
 ·simp only [h, ↓reduceIte]
  exact Ev.now _
theorem stateCount_ev (vs : List PVar) (rs : List PRule) : Ev (fun k => foretellref_StateCount.f k vs rs) (countS vs rs) := by
 unfold foretellref_StateCount.f countS
 refine ev_bind (modelFault_ev vs rs) ?_
 by_cases h : modelS vs rs = 0
 ·obtain ⟨ho, hp⟩ := vars_ok (modelS_vars h)
  simp only [h, ↓reduceIte]
  exact ev_bind (behind_ev vs rs (modelS_len h) ho hp 0 (by omega) (-1) (by omega)) (Ev.now _)
 ·simp only [h, ↓reduceIte]
  exact Ev.now _
end Go.Proofs.YtkpddelnkjjflaaDoor.Pure
