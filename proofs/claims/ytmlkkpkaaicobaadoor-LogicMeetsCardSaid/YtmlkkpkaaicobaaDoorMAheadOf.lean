/- AheadOf computes what logic.Ahead does. Plain Lean over the printed functions. -/
import Derived.Test.YtmlkkpkaaicobaaDoorLx3
import Derived.Test.YtmlkkpkaaicobaaDoorMAhead
namespace Go.Proofs.YtmlkkpkaaicobaaDoor.Pure
open Go.RowKit Go.Proofs.YtmlkkpkaaicobaaDoor Go.Proofs.YtmlkkpkaaicobaaDoor.L Go.Proofs.YtmlkkpkaaicobaaDoor.Base Go.Proofs.YtmlkkpkaaicobaaDoorW.PrintWords Go.Proofs.YtmlkkpkaaicobaaDoorW.PrintLast Go.Proofs.YtmlkkpkaaicobaaDoorW.PrintMore
set_option linter.unusedVariables false
set_option linter.unusedSimpArgs false
theorem aheadOf_loop (l : List POp) (hl : l.length ≤ 1000000) (d : Nat) : ∀ (i : Nat) (acc : List Int), i + d = l.length → acc.length ≤ i → Ev (fun k => foretellref_AheadOf.l0 k l acc i) (acc ++ aheadL (l.drop i) i, 0) := by
  induction d with
  | zero =>
    intro i acc hi ha
    rw [List.drop_of_length_le (by omega)]
    exact ev_now (fun k => by simp (disch := omega) only [foretellref_AheadOf.l0, if_neg, aheadL, List.append_nil])
  | succ d ih =>
    intro i acc hi ha
    have hlt : i < l.length := by omega
    have hg : rd_T63 l i = l[i] := getD_get _ _ _ hlt
    rw [List.drop_eq_getElem_cons hlt]
    unfold aheadL
    by_cases h : ahd l[i].f0 = true
    · rw [if_pos h]
      refine Ev.step (fun k => ?_) (ev_eq (ih (i + 1) (acc ++ [(i : Int)]) (by omega) (by simp; omega)) (by simp))
      simp (disch := omega) only [foretellref_AheadOf.l0, if_pos, hg, looksAhead_eq, h, Option.bind_some, wrap_id]
      rfl
    · rw [if_neg h]
      refine Ev.step (fun k => ?_) (ih (i + 1) acc (by omega) (by omega))
      simp (disch := omega) only [foretellref_AheadOf.l0, if_pos, hg, looksAhead_eq, if_neg h, Option.bind_some, wrap_id]
      rfl
theorem aheadOf_ev (l : List POp) (n : Int) : Ev (fun k => foretellref_AheadOf.f k l n) (aheadS l n) := by
  unfold foretellref_AheadOf.f aheadS
  refine ev_bind (formulaFault_ev l n) ?_
  by_cases h : checkS l n = 0
  · simp only [if_pos h]
    exact aheadOf_loop l (by have := (checkS_ok h).2.2.1; omega) l.length 0 [] (by omega) (by simp)
  · simp only [if_neg h]
    exact Ev.now _
theorem aheadS_bd (l : List POp) (n : Int) : (aheadS l n).1.length ≤ 1000 := by
  unfold aheadS
  by_cases h : checkS l n = 0
  · rw [if_pos h]
    have := (checkS_ok h).2.2.1
    have := aheadL_le l 0
    simp only
    omega
  · rw [if_neg h]; simp
end Go.Proofs.YtmlkkpkaaicobaaDoor.Pure
