import Derived.Test.YthffpjkkmkjplaaDoorKWordHoldsG8
import Derived.Test.YthffpjkkmkjplaaDoorKWordHoldsG12
import Derived.Test.YthffpjkkmkjplaaDoorKWordHoldsG9
import Derived.Test.YthffpjkkmkjplaaDoorKWordHoldsG10
import Derived.Test.YthffpjkkmkjplaaDoorKWordHoldsG7
-- Cut by a program of this session (wip/prune.py) from a longer text: declarations that the law does not need are left out.
namespace Go.Proofs.YthffpjkkmkjplaaDoor.Pure
open Go.RowKit Go.Proofs.YthffpjkkmkjplaaDoor Go.Proofs.YthffpjkkmkjplaaDoor.Q Go.Proofs.YthffpjkkmkjplaaDoor.Base Go.Proofs.YthffpjkkmkjplaaDoorW.PrintWords Go.Proofs.YthffpjkkmkjplaaDoorW.PrintLast Go.Proofs.YthffpjkkmkjplaaDoorW.PrintMore
set_option linter.unusedVariables false
theorem partsOf_ev (a : Int) : Ev (fun k => foretellref_PartsOf.f k a) (partsS a) := by
  by_cases h : a < 1 ∨ 18 < a
  · have e : ∀ n : Int, 1 ≤ n → n ≤ 18 → (a == n) = false := fun n h0 h1 => by rw [beq_eq_false_iff_ne]; omega
    unfold partsS
    rw [if_pos h]
    refine ev_nows 2 (fun k => ?_)
    simp (disch := omega) only [foretellref_PartsOf.f, foretellref_PartsOf.j0, foretellref_PartsOf.j1, if_neg, e, Bool.false_eq_true, if_false]
  · have : a = 1 ∨ a = 2 ∨ a = 3 ∨ a = 4 ∨ a = 5 ∨ a = 6 ∨ a = 7 ∨ a = 8 ∨ a = 9 ∨ a = 10 ∨ a = 11 ∨ a = 12 ∨ a = 13 ∨ a = 14 ∨ a = 15 ∨ a = 16 ∨ a = 17 ∨ a = 18 := by omega
    rcases this with rfl | rfl | rfl | rfl | rfl | rfl | rfl | rfl | rfl | rfl | rfl | rfl | rfl | rfl | rfl | rfl | rfl | rfl <;> exact ev_nows 2 (fun k => rfl)
end Go.Proofs.YthffpjkkmkjplaaDoor.Pure
-- Cut by a program of this session (wip/prune.py) from a longer text: declarations that the law does not need are left out.
namespace Go.Proofs.YthffpjkkmkjplaaDoor.Pure
open Go.RowKit Go.Proofs.YthffpjkkmkjplaaDoor Go.Proofs.YthffpjkkmkjplaaDoor.Q Go.Proofs.YthffpjkkmkjplaaDoor.Base Go.Proofs.YthffpjkkmkjplaaDoorW.PrintWords Go.Proofs.YthffpjkkmkjplaaDoorW.PrintLast Go.Proofs.YthffpjkkmkjplaaDoorW.PrintMore
set_option linter.unusedVariables false
theorem ops_eq (l : List POp) (h : l.length * 16 ≤ 140737488351232) : foretelllaw_ops.f l = some l := by
  unfold foretelllaw_ops.f
  rw [if_pos (by simp; omega)]
  rfl
def endRes (l : List POp) (r : Except Int (List POp)) : Int × Int := match r with | .ok r => ((l.length : Int) - r.length, 0) | .error e => (0, e)
theorem endOf_loop (l : List POp) (hl : l.length ≤ 1000000) (d : Nat) : ∀ (i w : Nat), i + d = l.length → w ≤ 2 * i + 1 → 0 < w → Ev (fun k => foretellref_endOf.l0 k l (w : Int) i) (endRes l (scan (l.drop i) w)) := by
  induction d with
  | zero =>
    intro i w hi hw hw0
    rw [List.drop_of_length_le (by omega)]
    obtain ⟨w, rfl⟩ : ∃ m, w = m + 1 := ⟨w - 1, by omega⟩
    exact ev_now (fun k => by simp (disch := omega) only [foretellref_endOf.l0, if_neg, scan_nil, endRes])
  | succ d ih =>
    intro i w hi hw hw0
    have hlt : i < l.length := by omega
    have hg : rd_T65 l i = l[i] := getD_get _ _ _ hlt
    obtain ⟨w, rfl⟩ : ∃ m, w = m + 1 := ⟨w - 1, by omega⟩
    rw [List.drop_eq_getElem_cons hlt, scan_cons]
    obtain ⟨o, ho⟩ : ∃ o, o = l[i] := ⟨_, rfl⟩
    rw [← ho] at hg ⊢
    have hp := partsOf_ev o.f0
    obtain ⟨n, e, hpq⟩ : ∃ n e, partsS o.f0 = (n, e) := ⟨_, _, rfl⟩
    have hb := partsS_bd (a := o.f0)
    rw [hpq] at hb hp ⊢
    simp only at hb ⊢
    refine Ev.step (f := fun k => (foretellref_PartsOf.f k o.f0).bind fun bt109 => (if bt109.2 = 0 then (if (wrap64 ((wrap64 (((w + 1 : Nat) : Int) + bt109.1)) - 1)) = 0 then (some (wrap64 ((i : Int) + 1), 0)) else (foretellref_endOf.l0 k l (wrap64 ((wrap64 (((w + 1 : Nat) : Int) + bt109.1)) - 1)) (wrap64 ((i : Int) + 1)))) else (some (0, bt109.2)))) (fun k => by simp (disch := omega) only [foretellref_endOf.l0, if_pos, hg]) ?_
    refine ev_bind hp ?_
    by_cases c : e = 0
    · obtain ⟨b0, b1⟩ := hb c
      simp only [if_pos c, wrap_id (show -9223372036854775808 ≤ ((w + 1 : Nat) : Int) + n by omega) (by omega), wrap_id (show -9223372036854775808 ≤ ((w + 1 : Nat) : Int) + n - 1 by omega) (by omega), wrap_id (show -9223372036854775808 ≤ (i : Int) + 1 by omega) (by omega)]
      by_cases c2 : ((w + 1 : Nat) : Int) + n - 1 = 0
      · simp only [if_pos c2]
        rw [show w + n.toNat = 0 by omega, scan_zero]
        refine ev_const (fun k => ?_)
        simp only [endRes, List.length_drop]
        congr 2
        omega
      · simp only [if_neg c2]
        have e2 : ((w + 1 : Nat) : Int) + n - 1 = ((w + n.toNat : Nat) : Int) := by omega
        rw [e2]
        exact ih (i + 1) (w + n.toNat) (by omega) (by omega) (by omega)
    · simp only [if_neg c]
      exact Ev.now _
theorem endOf_ev (l : List POp) (hl : l.length ≤ 1000000) (i : Nat) (hi : i ≤ l.length) : Ev (fun k => foretellref_endOf.f k l (i : Int)) (endRes l (scan (l.drop i) 1)) := endOf_loop l hl (l.length - i) i 1 (by omega) (by omega) (by omega)
theorem endRes_fst (l : List POp) (i : Nat) : (endRes l (scan (l.drop i) 1)).1 = endAt l i := by
  unfold endRes endAt
  split <;> simp_all
theorem endsOf_loop (l : List POp) (hl : l.length ≤ 1000000) (d : Nat) : ∀ (i : Nat), i + d = l.length → Ev (fun k => foretellref_EndsOf.l0 k l ((List.range i).map (endAt l)) i) ((List.range l.length).map (endAt l), 0) := by
  induction d with
  | zero =>
    intro i hi
    obtain rfl : i = l.length := by omega
    exact ev_now (fun k => by simp (disch := omega) only [foretellref_EndsOf.l0, if_neg])
  | succ d ih =>
    intro i hi
    have hq : ((List.range i).map (endAt l)).length < 17592186044416 := by simp; omega
    refine Ev.step (f := fun k => (foretellref_endOf.f k l (i : Int)).bind fun bt113 => foretellref_EndsOf.l0 k l ((List.range i).map (endAt l) ++ [bt113.1]) ((i + 1 : Nat) : Int)) (fun k => ?_) (ev_bind (endOf_ev l hl i (by omega)) ?_)
    · simp (disch := omega) only [foretellref_EndsOf.l0, if_pos, wrap_id]
      rfl
    · rw [endRes_fst]
      have : (List.range i).map (endAt l) ++ [endAt l i] = (List.range (i + 1)).map (endAt l) := by rw [List.range_succ, List.map_append]; rfl
      rw [this]
      exact ih (i + 1) (by omega)
theorem endsOf_ev (l : List POp) : Ev (fun k => foretellref_EndsOf.f k l) (endsS l) := by
  unfold foretellref_EndsOf.f endsS
  by_cases c : l.length > 60
  · have c' : (l.length : Int) > 60 := by omega
    simp only [if_pos c, if_pos c']
    exact Ev.now _
  · have c' : ¬ (l.length : Int) > 60 := by omega
    simp only [if_neg c, if_neg c']
    have h := endOf_ev l (by omega) 0 (by omega)
    rw [List.drop_zero] at h
    cases hs : scan l 1 with
    | error e =>
      have he : e ≠ 0 := by rcases scan_err _ _ _ hs with h | h <;> omega
      have h : Ev (fun k => foretellref_endOf.f k l ((0 : Nat) : Int)) (0, e) := by rw [hs] at h; exact h
      refine ev_bind h ?_
      simp only [if_neg he]
      exact Ev.now _
    | ok r =>
      have h : Ev (fun k => foretellref_endOf.f k l ((0 : Nat) : Int)) ((l.length : Int) - (r.length : Int), 0) := by rw [hs] at h; exact h
      refine ev_bind h ?_
      simp only [if_true]
      by_cases hr : r = []
      · subst hr
        have hn : ¬ ((l.length : Int) - (([] : List POp).length : Int) < (l.length : Int)) := by simp
        refine Ev.congr (f := fun k => foretellref_EndsOf.l0 k l ((List.range 0).map (endAt l)) ((0 : Nat) : Int)) (fun k => by rw [if_neg hn]; rfl) ?_
        exact endsOf_loop l (by omega) l.length 0 (by omega)
      · have hn : (l.length : Int) - (r.length : Int) < (l.length : Int) := by
          have := List.length_pos_iff.2 hr
          omega
        exact ev_const (fun k => by rw [if_pos hn, if_neg hr])
theorem endsS_ok {l : List POp} (h : (endsS l).2 = 0) : one l ∧ l.length ≤ 60 ∧ endsS l = ((List.range l.length).map (endAt l), 0) := by
  unfold endsS at h ⊢
  by_cases c : l.length > 60
  · rw [if_pos c] at h; cases h
  rw [if_neg c] at h ⊢
  cases hs : scan l 1 with
  | error e =>
    rw [hs] at h
    rcases scan_err _ _ _ hs with rfl | rfl <;> cases h
  | ok r =>
    rw [hs] at h
    simp only at h ⊢
    by_cases hr : r = []
    · subst hr
      exact ⟨hs, by omega, by simp⟩
    · rw [if_neg hr] at h; cases h
end Go.Proofs.YthffpjkkmkjplaaDoor.Pure
-- Cut by a program of this session (wip/prune.py) from a longer text: declarations that the law does not need are left out.
namespace Go.Proofs.YthffpjkkmkjplaaDoor.Pure
open Go.RowKit Go.Proofs.YthffpjkkmkjplaaDoor Go.Proofs.YthffpjkkmkjplaaDoor.Q Go.Proofs.YthffpjkkmkjplaaDoor.Base Go.Proofs.YthffpjkkmkjplaaDoorW.PrintWords Go.Proofs.YthffpjkkmkjplaaDoorW.PrintLast Go.Proofs.YthffpjkkmkjplaaDoorW.PrintMore
set_option linter.unusedVariables false
set_option linter.unusedSimpArgs false
def fit (n : Int) (o : POp) : Int := if o.f0 < 8 then 13 else if o.f0 = 13 then (if o.f1 < 0 ∨ n ≤ o.f1 then 2 else 0) else if o.f1 = 0 then 0 else 2
def ahd (a : Int) : Bool := decide (14 ≤ a ∧ a ≤ 18)
def chk (n : Int) : List POp → Nat → Int
  | [], c => if c > 6 then 1 else 0
  | o :: l, c => if fit n o = 0 then chk n l (c + if ahd o.f0 then 1 else 0) else fit n o
theorem fits_eq (n : Int) (o : POp) : logic_fits.f o.f0 o.f1 n = some (fit n o) := by
  unfold logic_fits.f fit
  by_cases h1 : o.f0 < 8
  · simp only [if_pos h1]
  simp only [if_neg h1]
  by_cases h2 : o.f0 = 13
  · simp only [if_pos h2]
    by_cases h3 : o.f1 < 0
    · rw [if_pos h3, if_pos (.inl h3)]
    rw [if_neg h3]
    by_cases h4 : o.f1 ≥ n
    · rw [if_pos h4, if_pos (.inr h4)]
    · rw [if_neg h4, if_neg (by omega)]
  · simp only [if_neg h2]
    split <;> rfl
theorem in_eq (a b c : Int) : foretellref_In.f a b c = some (decide (b ≤ a ∧ a ≤ c)) := by
  unfold foretellref_In.f
  by_cases h : a ≥ b
  · rw [if_pos h]
    congr 1
    simp only [decide_eq_decide]
    omega
  · rw [if_neg h]
    congr 1
    exact (decide_eq_false (by omega)).symm
theorem ahead_eq (a : Int) : logic_ahead.f a = some (ahd a) := by
  unfold logic_ahead.f ahd
  by_cases h : a ≥ 14
  · rw [if_pos h]
    congr 1
    simp only [decide_eq_decide]
    omega
  · rw [if_neg h]
    congr 1
    exact (decide_eq_false (by omega)).symm
theorem looksAhead_eq (a : Int) : foretellref_looksAhead.f a = some (ahd a) := by
  unfold foretellref_looksAhead.f
  rw [in_eq]
  rfl
theorem check_loop (l : List POp) (hl : l.length ≤ 1000000) (n : Int) (d : Nat) : ∀ (i c : Nat), i + d = l.length → c ≤ i → Ev (fun k => logic_Check.l0 k n (c : Int) l (l.length : Int) i) (chk n (l.drop i) c) := by
  induction d with
  | zero =>
    intro i c hi hc
    rw [List.drop_of_length_le (by omega)]
    refine ev_now (fun k => ?_)
    simp (disch := omega) only [logic_Check.l0, if_neg, chk]
    by_cases h : c > 6
    · rw [if_pos h, if_pos (by omega)]
    · rw [if_neg h, if_neg (by omega)]
  | succ d ih =>
    intro i c hi hc
    have hlt : i < l.length := by omega
    have hg : rd_T65 l i = l[i] := getD_get _ _ _ hlt
    rw [List.drop_eq_getElem_cons hlt]
    unfold chk
    by_cases hf : fit n l[i] = 0
    · rw [if_pos hf]
      by_cases ha : ahd l[i].f0 = true
      · rw [if_pos ha]
        refine Ev.step (fun k => ?_) (ih (i + 1) (c + 1) (by omega) (by omega))
        simp (disch := omega) only [logic_Check.l0, if_pos, hg, fits_eq, ahead_eq, hf, ha, Option.bind_some, wrap_id]
        rfl
      · rw [if_neg ha]
        refine Ev.step (fun k => ?_) (ih (i + 1) c (by omega) (by omega))
        simp (disch := omega) only [logic_Check.l0, if_pos, hg, fits_eq, ahead_eq, hf, if_neg ha, Option.bind_some, wrap_id]
        rfl
    · rw [if_neg hf]
      refine ev_now (fun k => ?_)
      simp (disch := omega) only [logic_Check.l0, if_pos, hg, fits_eq, if_neg hf, Option.bind_some]
def checkS (l : List POp) (n : Int) : Int := if 0 ≤ n ∧ n ≤ 6 then (if (endsS l).2 = 0 then chk n l 0 else (endsS l).2) else 2
theorem check_ev (l : List POp) (n : Int) : Ev (fun k => logic_Check.f k l n) (checkS l n) := by
  have key : Ev (fun k => logic_Check.j0 k l n (decide (n < 0 ∨ n > 6))) (checkS l n) := by
    unfold checkS
    by_cases h : 0 ≤ n ∧ n ≤ 6
    · rw [if_pos h, decide_eq_false (by omega)]
      refine Ev.step (f := fun k => (polish_Ends.f l).bind fun bt205 => (if bt205.2 = 0 then (logic_Check.l0 k n 0 l (l.length : Int) 0) else (some bt205.2))) (fun k => by simp only [logic_Check.j0, Bool.false_eq_true, if_false]) ?_
      refine ev_call (a := endsS l) rfl ?_
      by_cases he : (endsS l).2 = 0
      · simp only [if_pos he]
        exact check_loop l (by have := (endsS_ok he).2.1; omega) n l.length 0 0 (by omega) (by omega)
      · simp only [if_neg he]
        exact Ev.now _
    · rw [if_neg h, decide_eq_true (by omega)]
      exact ev_now (fun k => by simp only [logic_Check.j0, if_true])
  refine Ev.congr (fun k => ?_) key
  unfold logic_Check.f
  by_cases h : n < 0
  · rw [if_pos h, decide_eq_true (.inl h)]
  · rw [if_neg h]
    congr 1
    simp only [decide_eq_decide]
    omega
theorem fault_loop (l : List POp) (hl : l.length ≤ 1000000) (n : Int) (hn : 0 ≤ n ∧ n ≤ 6) (d : Nat) : ∀ (i c : Nat), i + d = l.length → c ≤ i → Ev (fun k => foretellref_FormulaFault.l0 k l n (c : Int) i) (chk n (l.drop i) c) := by
  induction d with
  | zero =>
    intro i c hi hc
    rw [List.drop_of_length_le (by omega)]
    refine ev_now (fun k => ?_)
    simp (disch := omega) only [foretellref_FormulaFault.l0, if_neg, chk]
    by_cases h : c > 6
    · rw [if_pos h, if_pos (by omega)]
    · rw [if_neg h, if_neg (by omega)]
  | succ d ih =>
    intro i c hi hc
    have hlt : i < l.length := by omega
    have hg : rd_T65 l i = l[i] := getD_get _ _ _ hlt
    rw [List.drop_eq_getElem_cons hlt]
    unfold chk
    by_cases h8 : l[i].f0 < 8
    · rw [if_neg (by unfold fit; rw [if_pos h8]; decide)]
      refine ev_now (fun k => ?_)
      simp (disch := omega) only [foretellref_FormulaFault.l0, if_pos, hg, if_pos h8]
      unfold fit
      rw [if_pos h8]
    obtain ⟨m, hm, hfm⟩ : ∃ m : Int, (m = if l[i].f0 = 13 then n - 1 else 0) ∧ fit n l[i] = if (0 ≤ l[i].f1 ∧ l[i].f1 ≤ m) then 0 else 2 := by
      refine ⟨_, rfl, ?_⟩
      unfold fit
      rw [if_neg h8]
      by_cases h13 : l[i].f0 = 13
      · simp only [if_pos h13]
        by_cases c : l[i].f1 < 0 ∨ n ≤ l[i].f1
        · rw [if_pos c, if_neg (by omega)]
        · rw [if_neg c, if_pos (by omega)]
      · simp only [if_neg h13]
        by_cases c : l[i].f1 = 0
        · rw [if_pos c, if_pos (by omega)]
        · rw [if_neg c, if_neg (by omega)]
    have h0 : ∀ k, foretellref_FormulaFault.l0 (k + 1) l n c i = foretellref_FormulaFault.j1 k l n c i m := by
      intro k
      rw [hm]
      by_cases h13 : l[i].f0 = 13
      · simp (disch := omega) only [foretellref_FormulaFault.l0, if_pos, hg, if_neg h8, if_pos h13, wrap_id]
      · simp (disch := omega) only [foretellref_FormulaFault.l0, if_pos, hg, if_neg h8, if_neg h13, wrap_id]
    by_cases hf : 0 ≤ l[i].f1 ∧ l[i].f1 ≤ m
    · rw [if_pos hf] at hfm
      rw [if_pos hfm]
      by_cases ha : ahd l[i].f0 = true
      · rw [if_pos ha]
        refine ev_steps 2 (fun k => ?_) (ih (i + 1) (c + 1) (by omega) (by omega))
        rw [h0 (k + 1)]
        simp (disch := omega) only [foretellref_FormulaFault.j1, if_pos, hg, in_eq, looksAhead_eq, ha, decide_eq_true hf, Option.bind_some, wrap_id]
        rfl
      · rw [if_neg ha]
        refine ev_steps 2 (fun k => ?_) (ih (i + 1) c (by omega) (by omega))
        rw [h0 (k + 1)]
        simp (disch := omega) only [foretellref_FormulaFault.j1, if_pos, hg, in_eq, looksAhead_eq, if_neg ha, decide_eq_true hf, Option.bind_some, wrap_id]
        rfl
    · rw [if_neg hf] at hfm
      rw [if_neg (by rw [hfm]; decide)]
      refine ev_nows 2 (fun k => ?_)
      rw [h0 (k + 1)]
      simp (disch := omega) only [foretellref_FormulaFault.j1, if_pos, hg, in_eq, decide_eq_false hf, Bool.false_eq_true, if_false, Option.bind_some, hfm]
theorem formulaFault_ev (l : List POp) (n : Int) : Ev (fun k => foretellref_FormulaFault.f k l n) (checkS l n) := by
  unfold foretellref_FormulaFault.f checkS
  refine ev_call (in_eq n 0 6) ?_
  by_cases h : 0 ≤ n ∧ n ≤ 6
  · simp only [decide_eq_true h, if_true, if_pos h]
    refine ev_bind (endsOf_ev l) ?_
    by_cases he : (endsS l).2 = 0
    · simp only [if_pos he]
      exact fault_loop l (by have := (endsS_ok he).2.1; omega) n h l.length 0 0 (by omega) (by omega)
    · simp only [if_neg he]
      exact Ev.now _
  · simp only [decide_eq_false h, Bool.false_eq_true, if_false, if_neg h]
    exact Ev.now _
theorem checkS_ok {l : List POp} {n : Int} (h : checkS l n = 0) : (0 ≤ n ∧ n ≤ 6) ∧ one l ∧ l.length ≤ 60 ∧ endsS l = ((List.range l.length).map (endAt l), 0) := by
  unfold checkS at h
  by_cases c : 0 ≤ n ∧ n ≤ 6
  · rw [if_pos c] at h
    by_cases he : (endsS l).2 = 0
    · exact ⟨c, endsS_ok he⟩
    · rw [if_neg he] at h; exact absurd h he
  · rw [if_neg c] at h; cases h
end Go.Proofs.YthffpjkkmkjplaaDoor.Pure
-- Cut by a program of this session (wip/prune.py) from a longer text: declarations that the law does not need are left out.
namespace Go.Proofs.YthffpjkkmkjplaaDoor.Pure
open Go.RowKit Go.Proofs.YthffpjkkmkjplaaDoor Go.Proofs.YthffpjkkmkjplaaDoor.Q Go.Proofs.YthffpjkkmkjplaaDoor.Base Go.Proofs.YthffpjkkmkjplaaDoorW.PrintWords Go.Proofs.YthffpjkkmkjplaaDoorW.PrintLast Go.Proofs.YthffpjkkmkjplaaDoorW.PrintMore
set_option linter.unusedVariables false
set_option linter.unusedSimpArgs false
def cA : List POp → Nat
  | [] => 0
  | o :: l => (if ahd o.f0 then 1 else 0) + cA l
theorem chk_cA (n : Int) : ∀ (l : List POp) (c : Nat), chk n l c = 0 → c + cA l ≤ 6 ∧ ∀ o ∈ l, fit n o = 0
  | [], c, h => by
    unfold chk at h
    by_cases h6 : c > 6
    · rw [if_pos h6] at h; cases h
    · exact ⟨by simp [cA]; omega, by simp⟩
  | o :: l, c, h => by
    unfold chk at h
    by_cases hf : fit n o = 0
    · rw [if_pos hf] at h
      obtain ⟨h1, h2⟩ := chk_cA n l _ h
      refine ⟨by unfold cA; omega, fun x hx => ?_⟩
      rcases List.mem_cons.1 hx with rfl | hx
      · exact hf
      · exact h2 x hx
    · rw [if_neg hf] at h; exact absurd h hf
theorem checkS_fit {l : List POp} {n : Int} (h : checkS l n = 0) : cA l ≤ 6 ∧ ∀ o ∈ l, fit n o = 0 := by
  unfold checkS at h
  by_cases c : 0 ≤ n ∧ n ≤ 6
  · rw [if_pos c] at h
    by_cases he : (endsS l).2 = 0
    · rw [if_pos he] at h
      have := chk_cA n l 0 h
      simpa using this
    · rw [if_neg he] at h; exact absurd h he
  · rw [if_neg c] at h; cases h
theorem second_at {l : List POp} (h1 : one l) (i : Nat) (hi : i < l.length) (ha : arIs l[i] 2) : i + 1 < l.length ∧ endAt l (i + 1) = (i : Int) + 1 + endAt (l.drop (i + 1)) 0 ∧ endAt l (i + 1) < (l.length : Int) ∧ 0 ≤ endAt (l.drop (i + 1)) 0 := by
  obtain ⟨r, hr⟩ := one_places l h1 i hi
  rw [List.drop_eq_getElem_cons hi, scan_cons, ha] at hr
  simp only [if_true] at hr
  obtain ⟨p, q, hpq, hp, hq, _⟩ := scan_split (n := 1) hr
  obtain ⟨p2, q2, hpq2, hp2, hq2, _⟩ := scan_split (n := 0) hq
  have h1 := one_pos hp
  have h2 := one_pos hp2
  have hlen : l.length - (i + 1) = p.length + (p2.length + q2.length) := by
    have := congrArg List.length hpq
    rw [List.length_drop, List.length_append, hpq2, List.length_append] at this
    exact this
  have e1 : endAt l (i + 1) = ((i + 1 + p.length : Nat) : Int) := by
    unfold endAt
    rw [hpq, scan_append p 1 [] q hp]
    simp only [List.nil_append, hpq2, List.length_append]
    omega
  have e2 : endAt (l.drop (i + 1)) 0 = (p.length : Int) := by
    unfold endAt
    rw [List.drop_zero, hpq, scan_append p 1 [] q hp]
    simp only [List.nil_append, List.length_append]
    omega
  rw [e1, e2]
  omega
theorem first_at {l : List POp} (h1 : one l) (i : Nat) (hi : i < l.length) (n : Nat) (ha : arIs l[i] (n + 1)) : i + 1 < l.length := by
  obtain ⟨r, hr⟩ := one_places l h1 i hi
  rw [List.drop_eq_getElem_cons hi, scan_cons, ha] at hr
  simp only [if_true] at hr
  rcases Nat.lt_or_ge (i + 1) l.length with h | h
  · exact h
  · rw [List.drop_of_length_le h] at hr
    have e : (0 + (((n + 1 : Nat) : Int), (0 : Int)).1.toNat) = n + 1 := by simp
    rw [e] at hr
    cases hr
end Go.Proofs.YthffpjkkmkjplaaDoor.Pure
-- Cut by a program of this session (wip/prune.py) from a longer text: declarations that the law does not need are left out.
namespace Go.Proofs.YthffpjkkmkjplaaDoor.Pure
open Go.RowKit Go.Proofs.YthffpjkkmkjplaaDoor Go.Proofs.YthffpjkkmkjplaaDoor.Q Go.Proofs.YthffpjkkmkjplaaDoor.Base Go.Proofs.YthffpjkkmkjplaaDoorW.PrintWords Go.Proofs.YthffpjkkmkjplaaDoorW.PrintLast Go.Proofs.YthffpjkkmkjplaaDoorW.PrintMore
set_option linter.unusedVariables false
set_option linter.unusedSimpArgs false
def oneS (n c : Nat) (L : List (List Bool)) (o : POp) (a b : List Bool) (i : Nat) : Bool :=
  if o.f0 = 13 then (L.getD i []).getD o.f1.toNat false
  else if o.f0 = 11 then true
  else if o.f0 = 10 then !(a.getD i false)
  else if o.f0 = 8 then a.getD i false && b.getD i false
  else if o.f0 = 9 then a.getD i false || b.getD i false
  else if o.f0 = 14 then a.getD (behS n (n - c) i) false
  else false
def rowS (n c : Nat) (L : List (List Bool)) (o : POp) (a b : List Bool) : List Bool :=
  if o.f0 = 17 then uRow n c false (fun _ => true) (fun i => a.getD i false)
  else if o.f0 = 18 then uRow n c true (fun _ => true) (fun i => !(a.getD i false))
  else if o.f0 = 15 then uRow n c false (fun i => a.getD i false) (fun i => b.getD i false)
  else if o.f0 = 16 then uRow n c true (fun i => !(a.getD i false)) (fun i => !(b.getD i false))
  else (List.range n).map (oneS n c L o a b)
theorem rowS_len (n c : Nat) (L : List (List Bool)) (o : POp) (a b : List Bool) : (rowS n c L o a b).length = n := by
  unfold rowS uRow
  repeat' split
  all_goals simp
def rowsS (n c : Nat) (L : List (List Bool)) : List POp → List (List Bool)
  | [] => []
  | o :: l => rowS n c L o ((rowsS n c L l).getD 0 []) ((rowsS n c L l).getD (endAt l 0).toNat []) :: rowsS n c L l
theorem rowsS_len (n c : Nat) (L : List (List Bool)) : ∀ l : List POp, (rowsS n c L l).length = l.length
  | [] => rfl
  | o :: l => by rw [rowsS, List.length_cons, rowsS_len n c L l, List.length_cons]
theorem rowsS_drop (n c : Nat) (L : List (List Bool)) : ∀ (l : List POp) (i : Nat), (rowsS n c L l).drop i = rowsS n c L (l.drop i)
  | l, 0 => by simp
  | [], i + 1 => by simp [rowsS]
  | o :: l, i + 1 => by rw [rowsS, List.drop_succ_cons, List.drop_succ_cons, rowsS_drop n c L l i]
theorem rowsS_at (n c : Nat) (L : List (List Bool)) (l : List POp) (i : Nat) (hi : i < l.length) :
    (rowsS n c L l).getD i [] = rowS n c L l[i] ((rowsS n c L l).getD (i + 1) []) ((rowsS n c L l).getD (i + 1 + (endAt (l.drop (i + 1)) 0).toNat) []) := by
  have h1 := rowsS_drop n c L l i
  have h2 := rowsS_drop n c L l (i + 1)
  have g : ∀ m, (rowsS n c L l).getD (i + 1 + m) [] = (rowsS n c L (l.drop (i + 1))).getD m [] := by
    intro m
    rw [← h2, List.getD_eq_getElem?_getD, List.getD_eq_getElem?_getD, List.getElem?_drop]
  have g0 := g 0
  rw [Nat.add_zero] at g0
  have h3 : (rowsS n c L l).getD i [] = ((rowsS n c L l).drop i).getD 0 [] := by
    rw [List.getD_eq_getElem?_getD, List.getD_eq_getElem?_getD, List.getElem?_drop, Nat.add_zero]
  rw [h3, h1, List.drop_eq_getElem_cons hi, rowsS, g0, g]
  rfl
theorem rowsS_in (n c : Nat) (L : List (List Bool)) (l : List POp) (i : Nat) (hi : i < l.length) : ((rowsS n c L l).getD i []).length = n := by
  rw [rowsS_at n c L l i hi]
  exact rowS_len _ _ _ _ _ _
theorem law17 {n c : Nat} (hc : 0 < c) (hn : c ≤ n) (L : List (List Bool)) (o : POp) (a b : List Bool) (h : o.f0 = 17) : LawOK n (n - c) false (fun i x => a.getD i false || x) (rowS n c L o a b) := by
  unfold rowS
  rw [if_pos h]
  exact uRow_ok false _ _ hc hn _ (fun i hi x => by simp)
theorem law18 {n c : Nat} (hc : 0 < c) (hn : c ≤ n) (L : List (List Bool)) (o : POp) (a b : List Bool) (h : o.f0 = 18) : LawOK n (n - c) true (fun i x => a.getD i false && x) (rowS n c L o a b) := by
  unfold rowS
  rw [if_neg (by omega), if_pos h]
  exact uRow_ok true _ _ hc hn _ (fun i hi x => by cases a.getD i false <;> cases x <;> rfl)
theorem law15 {n c : Nat} (hc : 0 < c) (hn : c ≤ n) (L : List (List Bool)) (o : POp) (a b : List Bool) (h : o.f0 = 15) : LawOK n (n - c) false (fun i x => b.getD i false || (a.getD i false && x)) (rowS n c L o a b) := by
  unfold rowS
  rw [if_neg (by omega), if_neg (by omega), if_pos h]
  exact uRow_ok false _ _ hc hn _ (fun i hi x => by simp)
theorem law16 {n c : Nat} (hc : 0 < c) (hn : c ≤ n) (L : List (List Bool)) (o : POp) (a b : List Bool) (h : o.f0 = 16) : LawOK n (n - c) true (fun i x => b.getD i false && (a.getD i false || x)) (rowS n c L o a b) := by
  unfold rowS
  rw [if_neg (by omega), if_neg (by omega), if_neg (by omega), if_pos h]
  exact uRow_ok true _ _ hc hn _ (fun i hi x => by cases a.getD i false <;> cases b.getD i false <;> cases x <;> rfl)
theorem kind_of {l : List POp} {n : Int} (h1 : one l) (i : Nat) (hi : i < l.length) (hf : fit n l[i] = 0) :
    (l[i].f0 = 13 ∧ 0 ≤ l[i].f1 ∧ l[i].f1 < n) ∨ l[i].f0 = 11 ∨ l[i].f0 = 12 ∨ (l[i].f0 = 10 ∧ arIs l[i] 1) ∨ (l[i].f0 = 8 ∧ arIs l[i] 2) ∨ (l[i].f0 = 9 ∧ arIs l[i] 2) ∨ (14 ≤ l[i].f0 ∧ l[i].f0 ≤ 18) := by
  obtain ⟨rr, hrr⟩ := one_places l h1 i hi
  rw [List.drop_eq_getElem_cons hi, scan_cons] at hrr
  have hp : ¬ (l[i].f0 < 1 ∨ 18 < l[i].f0) := by
    intro hc
    have e : (partsS l[i].f0).2 = 13 := by unfold partsS; rw [if_pos hc]
    rw [e] at hrr
    simp at hrr
  unfold fit at hf
  have h8 : ¬ l[i].f0 < 8 := by
    intro hc
    rw [if_pos hc] at hf
    cases hf
  rw [if_neg h8] at hf
  by_cases k13 : l[i].f0 = 13
  · rw [if_pos k13] at hf
    split at hf
    · cases hf
    · exact .inl ⟨k13, by omega, by omega⟩
  have : l[i].f0 = 8 ∨ l[i].f0 = 9 ∨ l[i].f0 = 10 ∨ l[i].f0 = 11 ∨ l[i].f0 = 12 ∨ (14 ≤ l[i].f0 ∧ l[i].f0 ≤ 18) := by omega
  rcases this with e | e | e | e | e | e
  · exact .inr (.inr (.inr (.inr (.inl ⟨e, by unfold arIs; rw [e]; decide⟩))))
  · exact .inr (.inr (.inr (.inr (.inr (.inl ⟨e, by unfold arIs; rw [e]; decide⟩)))))
  · exact .inr (.inr (.inr (.inl ⟨e, by unfold arIs; rw [e]; decide⟩)))
  · exact .inr (.inl e)
  · exact .inr (.inr (.inl e))
  · exact .inr (.inr (.inr (.inr (.inr (.inr e)))))
end Go.Proofs.YthffpjkkmkjplaaDoor.Pure
