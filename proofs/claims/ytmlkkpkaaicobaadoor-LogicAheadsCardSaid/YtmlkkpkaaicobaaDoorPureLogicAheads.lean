/- logic.Ahead answers what the document says, at every argument: foretelllaw.LogicAheads returns true. No condition; package polish's table is as the program's text lays it (the card ties it). -/
import Derived.Test.YtmlkkpkaaicobaaDoorPx10
import Derived.Test.YtmlkkpkaaicobaaDoorPo
import Derived.Test.YtmlkkpkaaicobaaDoorMLogic
import Derived.Test.YtmlkkpkaaicobaaDoorMSame
namespace Go.Proofs.YtmlkkpkaaicobaaDoor.Pure
open Go.RowKit Go.Proofs.YtmlkkpkaaicobaaDoor Go.Proofs.YtmlkkpkaaicobaaDoor.P Go.Proofs.YtmlkkpkaaicobaaDoor.Base Go.Proofs.YtmlkkpkaaicobaaDoorW.PrintWords Go.Proofs.YtmlkkpkaaicobaaDoorW.PrintLast Go.Proofs.YtmlkkpkaaicobaaDoorW.PrintMore
set_option linter.unusedVariables false
set_option linter.unusedSimpArgs false
def aheadL : List POp → Nat → List Int
  | [], _ => []
  | o :: l, i => if ahd o.f0 then (i : Int) :: aheadL l (i + 1) else aheadL l (i + 1)
theorem aheadL_le : ∀ (l : List POp) (i : Nat), (aheadL l i).length ≤ l.length
  | [], _ => by simp [aheadL]
  | o :: l, i => by
    have := aheadL_le l (i + 1)
    unfold aheadL
    split <;> simp <;> omega
theorem ahead_loop (l : List POp) (hl : l.length ≤ 1000000) (d : Nat) : ∀ (i : Nat) (acc : List Int), i + d = l.length → acc.length ≤ i → Ev (fun k => logic_Ahead.l0 k acc l (l.length : Int) i) (acc ++ aheadL (l.drop i) i, 0) := by
  induction d with
  | zero =>
    intro i acc hi ha
    rw [List.drop_of_length_le (by omega)]
    exact ev_now (fun k => by simp (disch := omega) only [logic_Ahead.l0, if_neg, aheadL, List.append_nil])
  | succ d ih =>
    intro i acc hi ha
    have hlt : i < l.length := by omega
    have hg : rd_T63 l i = l[i] := getD_get _ _ _ hlt
    rw [List.drop_eq_getElem_cons hlt]
    unfold aheadL
    by_cases h : ahd l[i].f0 = true
    · rw [if_pos h]
      refine Ev.step (fun k => ?_) (ev_eq (ih (i + 1) (acc ++ [(i : Int)]) (by omega) (by simp; omega)) (by simp))
      simp (disch := omega) only [logic_Ahead.l0, if_pos, hg, ahead_eq, h, Option.bind_some, wrap_id]
      rfl
    · rw [if_neg h]
      refine Ev.step (fun k => ?_) (ih (i + 1) acc (by omega) (by omega))
      simp (disch := omega) only [logic_Ahead.l0, if_pos, hg, ahead_eq, if_neg h, Option.bind_some, wrap_id]
      rfl
theorem aheadOf_loop (l : List POp) (hl : l.length ≤ 1000000) (d : Nat) : ∀ (i : Nat) (acc : List Int), i + d = l.length → acc.length ≤ i → Ev (fun k => foretellref_AheadOf.l0 k l acc i) (acc ++ aheadL (l.drop i) i, 0) := by
  induction d with
  | zero =>
    intro i acc hi ha
    rw [List.drop_of_length_le (by omega)]
    exact ev_now (fun k => by simp (disch := omega) only [foretellref_AheadOf.l0, if_neg, aheadL, List.append_nil])
  | succ d ih =>
    intro i acc hi ha
    have hlt : i < l.length := by omega
    have hg : rd_T63 l i = l[i] := getD_get _ _ _ hlt
    rw [List.drop_eq_getElem_cons hlt]
    unfold aheadL
    by_cases h : ahd l[i].f0 = true
    · rw [if_pos h]
      refine Ev.step (fun k => ?_) (ev_eq (ih (i + 1) (acc ++ [(i : Int)]) (by omega) (by simp; omega)) (by simp))
      simp (disch := omega) only [foretellref_AheadOf.l0, if_pos, hg, looksAhead_eq, h, Option.bind_some, wrap_id]
      rfl
    · rw [if_neg h]
      refine Ev.step (fun k => ?_) (ih (i + 1) acc (by omega) (by omega))
      simp (disch := omega) only [foretellref_AheadOf.l0, if_pos, hg, looksAhead_eq, if_neg h, Option.bind_some, wrap_id]
      rfl
def aheadS (l : List POp) (n : Int) : List Int × Int := if checkS l n = 0 then (aheadL l 0, 0) else ([], checkS l n)
theorem ahead_ev (l : List POp) (n : Int) : Ev (fun k => logic_Ahead.f k l n) (aheadS l n) := by
  unfold logic_Ahead.f aheadS
  refine ev_bind (check_ev l n) ?_
  by_cases h : checkS l n = 0
  · simp only [if_pos h]
    exact ahead_loop l (by have := (checkS_ok h).2.2.1; omega) l.length 0 [] (by omega) (by simp)
  · simp only [if_neg h]
    exact Ev.now _
theorem aheadOf_ev (l : List POp) (n : Int) : Ev (fun k => foretellref_AheadOf.f k l n) (aheadS l n) := by
  unfold foretellref_AheadOf.f aheadS
  refine ev_bind (formulaFault_ev l n) ?_
  by_cases h : checkS l n = 0
  · simp only [if_pos h]
    exact aheadOf_loop l (by have := (checkS_ok h).2.2.1; omega) l.length 0 [] (by omega) (by simp)
  · simp only [if_neg h]
    exact Ev.now _
theorem aheadS_bd (l : List POp) (n : Int) : (aheadS l n).1.length ≤ 1000 := by
  unfold aheadS
  by_cases h : checkS l n = 0
  · rw [if_pos h]
    have := (checkS_ok h).2.2.1
    have := aheadL_le l 0
    simp only
    omega
  · rw [if_neg h]; simp
theorem LogicAheads (x0 : List S63) (a1 : Int) (good0 : (x0.length * 16 ≤ 140737488351232 ∧ ∀ zx0 ∈ x0, G63 zx0)) (w1 : (Lit.int .i64 a1).wf = true) : ∃ k, foretelllaw_LogicAheads.f k x0 a1 = some true := by
  refine Ev.rounds (g := fun k => foretelllaw_LogicAheads.f k x0 a1) ?_
  unfold foretelllaw_LogicAheads.f
  refine ev_call (ops_eq x0 good0.1) ?_
  refine ev_bind (ahead_ev x0 a1) (ev_bind (aheadOf_ev x0 a1) ?_)
  simp only [if_true]
  exact ev_bind (sameInts_refl _ (by have := aheadS_bd x0 a1; omega)) (Ev.now _)
end Go.Proofs.YtmlkkpkaaicobaaDoor.Pure
