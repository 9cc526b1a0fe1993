-- Cut by a program of this session (wip/prune.py) from a longer text: declarations that the law does not need are left out.
import Derived.Test.YtkpddelnkjjflaaDoorKProductChecksMx20
import Derived.Test.YtkpddelnkjjflaaDoorKProductChecksMx20
import Derived.Test.YtkpddelnkjjflaaDoorKProductChecksMOps
namespace Go.Proofs.YtkpddelnkjjflaaDoor.Pure
open Go.RowKit Go.Proofs.YtkpddelnkjjflaaDoor Go.Proofs.YtkpddelnkjjflaaDoor.M Go.Proofs.YtkpddelnkjjflaaDoor.Base Go.Proofs.YtkpddelnkjjflaaDoorW.PrintWords Go.Proofs.YtkpddelnkjjflaaDoorW.PrintLast Go.Proofs.YtkpddelnkjjflaaDoorW.PrintMore
set_option linter.unusedVariables false
set_option linter.unusedSimpArgs false
def fit (n : Int) (o : POp) : Int := if o.f0 < 8 then 13 else if o.f0 = 13 then (if o.f1 < 0 ∨ n ≤ o.f1 then 2 else 0) else if o.f1 = 0 then 0 else 2
def ahd (a : Int) : Bool := decide (14 ≤ a ∧ a ≤ 18)
def chk (n : Int) : List POp → Nat → Int
  | [], c => if c > 6 then 1 else 0
  | o :: l, c => if fit n o = 0 then chk n l (c + if ahd o.f0 then 1 else 0) else fit n o
theorem fits_eq (n : Int) (o : POp) : logic_fits.f o.f0 o.f1 n = some (fit n o) := by
  unfold logic_fits.f fit
  by_cases h1 : o.f0 < 8
  · simp only [if_pos h1]
  simp only [if_neg h1]
  by_cases h2 : o.f0 = 13
  · simp only [if_pos h2]
    by_cases h3 : o.f1 < 0
    · rw [if_pos h3, if_pos (.inl h3)]
    rw [if_neg h3]
    by_cases h4 : o.f1 ≥ n
    · rw [if_pos h4, if_pos (.inr h4)]
    · rw [if_neg h4, if_neg (by omega)]
  · simp only [if_neg h2]
    split <;> rfl
theorem in_eq (a b c : Int) : foretellref_In.f a b c = some (decide (b ≤ a ∧ a ≤ c)) := by
  unfold foretellref_In.f
  by_cases h : a ≥ b
  · rw [if_pos h]
    congr 1
    simp only [decide_eq_decide]
    omega
  · rw [if_neg h]
    congr 1
    exact (decide_eq_false (by omega)).symm
theorem ahead_eq (a : Int) : logic_ahead.f a = some (ahd a) := by
  unfold logic_ahead.f ahd
  by_cases h : a ≥ 14
  · rw [if_pos h]
    congr 1
    simp only [decide_eq_decide]
    omega
  · rw [if_neg h]
    congr 1
    exact (decide_eq_false (by omega)).symm
theorem looksAhead_eq (a : Int) : foretellref_looksAhead.f a = some (ahd a) := by
  unfold foretellref_looksAhead.f
  rw [in_eq]
  rfl
theorem check_loop (l : List POp) (hl : l.length ≤ 1000000) (n : Int) (d : Nat) : ∀ (i c : Nat), i + d = l.length → c ≤ i → Ev (fun k => logic_Check.l0 k n (c : Int) l (l.length : Int) i) (chk n (l.drop i) c) := by
  induction d with
  | zero =>
    intro i c hi hc
    rw [List.drop_of_length_le (by omega)]
    refine ev_now (fun k => ?_)
    simp (disch := omega) only [logic_Check.l0, if_neg, chk]
    by_cases h : c > 6
    · rw [if_pos h, if_pos (by omega)]
    · rw [if_neg h, if_neg (by omega)]
  | succ d ih =>
    intro i c hi hc
    have hlt : i < l.length := by omega
    have hg : rd_T94 l i = l[i] := getD_get _ _ _ hlt
    rw [List.drop_eq_getElem_cons hlt]
    unfold chk
    by_cases hf : fit n l[i] = 0
    · rw [if_pos hf]
      by_cases ha : ahd l[i].f0 = true
      · rw [if_pos ha]
        refine Ev.step (fun k => ?_) (ih (i + 1) (c + 1) (by omega) (by omega))
        simp (disch := omega) only [logic_Check.l0, if_pos, hg, fits_eq, ahead_eq, hf, ha, Option.bind_some, wrap_id]
        rfl
      · rw [if_neg ha]
        refine Ev.step (fun k => ?_) (ih (i + 1) c (by omega) (by omega))
        simp (disch := omega) only [logic_Check.l0, if_pos, hg, fits_eq, ahead_eq, hf, if_neg ha, Option.bind_some, wrap_id]
        rfl
    · rw [if_neg hf]
      refine ev_now (fun k => ?_)
      simp (disch := omega) only [logic_Check.l0, if_pos, hg, fits_eq, if_neg hf, Option.bind_some]
def checkS (l : List POp) (n : Int) : Int := if 0 ≤ n ∧ n ≤ 6 then (if (endsS l).2 = 0 then chk n l 0 else (endsS l).2) else 2
theorem check_ev (l : List POp) (n : Int) : Ev (fun k => logic_Check.f k l n) (checkS l n) := by
  have key : Ev (fun k => logic_Check.j0 k l n (decide (n < 0 ∨ n > 6))) (checkS l n) := by
    unfold checkS
    by_cases h : 0 ≤ n ∧ n ≤ 6
    · rw [if_pos h, decide_eq_false (by omega)]
      refine Ev.step (f := fun k => (polish_Ends.f l).bind fun bt205 => (if bt205.2 = 0 then (logic_Check.l0 k n 0 l (l.length : Int) 0) else (some bt205.2))) (fun k => by simp only [logic_Check.j0, Bool.false_eq_true, if_false]) ?_
      refine ev_call (a := endsS l) rfl ?_
      by_cases he : (endsS l).2 = 0
      · simp only [if_pos he]
        exact check_loop l (by have := (endsS_ok he).2.1; omega) n l.length 0 0 (by omega) (by omega)
      · simp only [if_neg he]
        exact Ev.now _
    · rw [if_neg h, decide_eq_true (by omega)]
      exact ev_now (fun k => by simp only [logic_Check.j0, if_true])
  refine Ev.congr (fun k => ?_) key
  unfold logic_Check.f
  by_cases h : n < 0
  · rw [if_pos h, decide_eq_true (.inl h)]
  · rw [if_neg h]
    congr 1
    simp only [decide_eq_decide]
    omega
theorem fault_loop (l : List POp) (hl : l.length ≤ 1000000) (n : Int) (hn : 0 ≤ n ∧ n ≤ 6) (d : Nat) : ∀ (i c : Nat), i + d = l.length → c ≤ i → Ev (fun k => foretellref_FormulaFault.l0 k l n (c : Int) i) (chk n (l.drop i) c) := by
  induction d with
  | zero =>
    intro i c hi hc
    rw [List.drop_of_length_le (by omega)]
    refine ev_now (fun k => ?_)
    simp (disch := omega) only [foretellref_FormulaFault.l0, if_neg, chk]
    by_cases h : c > 6
    · rw [if_pos h, if_pos (by omega)]
    · rw [if_neg h, if_neg (by omega)]
  | succ d ih =>
    intro i c hi hc
    have hlt : i < l.length := by omega
    have hg : rd_T94 l i = l[i] := getD_get _ _ _ hlt
    rw [List.drop_eq_getElem_cons hlt]
    unfold chk
    by_cases h8 : l[i].f0 < 8
    · rw [if_neg (by unfold fit; rw [if_pos h8]; decide)]
      refine ev_now (fun k => ?_)
      simp (disch := omega) only [foretellref_FormulaFault.l0, if_pos, hg, if_pos h8]
      unfold fit
      rw [if_pos h8]
    obtain ⟨m, hm, hfm⟩ : ∃ m : Int, (m = if l[i].f0 = 13 then n - 1 else 0) ∧ fit n l[i] = if (0 ≤ l[i].f1 ∧ l[i].f1 ≤ m) then 0 else 2 := by
      refine ⟨_, rfl, ?_⟩
      unfold fit
      rw [if_neg h8]
      by_cases h13 : l[i].f0 = 13
      · simp only [if_pos h13]
        by_cases c : l[i].f1 < 0 ∨ n ≤ l[i].f1
        · rw [if_pos c, if_neg (by omega)]
        · rw [if_neg c, if_pos (by omega)]
      · simp only [if_neg h13]
        by_cases c : l[i].f1 = 0
        · rw [if_pos c, if_pos (by omega)]
        · rw [if_neg c, if_neg (by omega)]
    have h0 : ∀ k, foretellref_FormulaFault.l0 (k + 1) l n c i = foretellref_FormulaFault.j1 k l n c i m := by
      intro k
      rw [hm]
      by_cases h13 : l[i].f0 = 13
      · simp (disch := omega) only [foretellref_FormulaFault.l0, if_pos, hg, if_neg h8, if_pos h13, wrap_id]
      · simp (disch := omega) only [foretellref_FormulaFault.l0, if_pos, hg, if_neg h8, if_neg h13, wrap_id]
    by_cases hf : 0 ≤ l[i].f1 ∧ l[i].f1 ≤ m
    · rw [if_pos hf] at hfm
      rw [if_pos hfm]
      by_cases ha : ahd l[i].f0 = true
      · rw [if_pos ha]
        refine ev_steps 2 (fun k => ?_) (ih (i + 1) (c + 1) (by omega) (by omega))
        rw [h0 (k + 1)]
        simp (disch := omega) only [foretellref_FormulaFault.j1, if_pos, hg, in_eq, looksAhead_eq, ha, decide_eq_true hf, Option.bind_some, wrap_id]
        rfl
      · rw [if_neg ha]
        refine ev_steps 2 (fun k => ?_) (ih (i + 1) c (by omega) (by omega))
        rw [h0 (k + 1)]
        simp (disch := omega) only [foretellref_FormulaFault.j1, if_pos, hg, in_eq, looksAhead_eq, if_neg ha, decide_eq_true hf, Option.bind_some, wrap_id]
        rfl
    · rw [if_neg hf] at hfm
      rw [if_neg (by rw [hfm]; decide)]
      refine ev_nows 2 (fun k => ?_)
      rw [h0 (k + 1)]
      simp (disch := omega) only [foretellref_FormulaFault.j1, if_pos, hg, in_eq, decide_eq_false hf, Bool.false_eq_true, if_false, Option.bind_some, hfm]
theorem formulaFault_ev (l : List POp) (n : Int) : Ev (fun k => foretellref_FormulaFault.f k l n) (checkS l n) := by
  unfold foretellref_FormulaFault.f checkS
  refine ev_call (in_eq n 0 6) ?_
  by_cases h : 0 ≤ n ∧ n ≤ 6
  · simp only [decide_eq_true h, if_true, if_pos h]
    refine ev_bind (endsOf_ev l) ?_
    by_cases he : (endsS l).2 = 0
    · simp only [if_pos he]
      exact fault_loop l (by have := (endsS_ok he).2.1; omega) n h l.length 0 0 (by omega) (by omega)
    · simp only [if_neg he]
      exact Ev.now _
  · simp only [decide_eq_false h, Bool.false_eq_true, if_false, if_neg h]
    exact Ev.now _
end Go.Proofs.YtkpddelnkjjflaaDoor.Pure
