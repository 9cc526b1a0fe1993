import Derived.Test.YthffpjkkmkjplaaDoorKWordClaimsG8
import Derived.Test.YthffpjkkmkjplaaDoorKWordClaimsG10
import Derived.Test.YthffpjkkmkjplaaDoorKWordClaimsG9
import Derived.Test.YthffpjkkmkjplaaDoorKWordClaimsG11
import Derived.Test.YthffpjkkmkjplaaDoorKWordClaimsG3
-- Cut by a program of this session (wip/prune.py) from a longer text: declarations that the law does not need are left out.
namespace Go.Proofs.YthffpjkkmkjplaaDoor.Pure
open Go.RowKit Go.Proofs.YthffpjkkmkjplaaDoor Go.Proofs.YthffpjkkmkjplaaDoor.Q Go.Proofs.YthffpjkkmkjplaaDoor.Base Go.Proofs.YthffpjkkmkjplaaDoorW.PrintWords Go.Proofs.YthffpjkkmkjplaaDoorW.PrintLast Go.Proofs.YthffpjkkmkjplaaDoorW.PrintMore
set_option linter.unusedVariables false
theorem partsOf_ev (a : Int) : Ev (fun k => foretellref_PartsOf.f k a) (partsS a) := by
  by_cases h : a < 1 ∨ 18 < a
  · have e : ∀ n : Int, 1 ≤ n → n ≤ 18 → (a == n) = false := fun n h0 h1 => by rw [beq_eq_false_iff_ne]; omega
    unfold partsS
    rw [if_pos h]
    refine ev_nows 2 (fun k => ?_)
    simp (disch := omega) only [foretellref_PartsOf.f, foretellref_PartsOf.j0, foretellref_PartsOf.j1, if_neg, e, Bool.false_eq_true, if_false]
  · have : a = 1 ∨ a = 2 ∨ a = 3 ∨ a = 4 ∨ a = 5 ∨ a = 6 ∨ a = 7 ∨ a = 8 ∨ a = 9 ∨ a = 10 ∨ a = 11 ∨ a = 12 ∨ a = 13 ∨ a = 14 ∨ a = 15 ∨ a = 16 ∨ a = 17 ∨ a = 18 := by omega
    rcases this with rfl | rfl | rfl | rfl | rfl | rfl | rfl | rfl | rfl | rfl | rfl | rfl | rfl | rfl | rfl | rfl | rfl | rfl <;> exact ev_nows 2 (fun k => rfl)
end Go.Proofs.YthffpjkkmkjplaaDoor.Pure
-- Cut by a program of this session (wip/prune.py) from a longer text: declarations that the law does not need are left out.
namespace Go.Proofs.YthffpjkkmkjplaaDoor.Pure
open Go.RowKit Go.Proofs.YthffpjkkmkjplaaDoor Go.Proofs.YthffpjkkmkjplaaDoor.Q Go.Proofs.YthffpjkkmkjplaaDoor.Base Go.Proofs.YthffpjkkmkjplaaDoorW.PrintWords Go.Proofs.YthffpjkkmkjplaaDoorW.PrintLast Go.Proofs.YthffpjkkmkjplaaDoorW.PrintMore
set_option linter.unusedVariables false
theorem ops_eq (l : List POp) (h : l.length * 16 ≤ 140737488351232) : foretelllaw_ops.f l = some l := by
  unfold foretelllaw_ops.f
  rw [if_pos (by simp; omega)]
  rfl
def endRes (l : List POp) (r : Except Int (List POp)) : Int × Int := match r with | .ok r => ((l.length : Int) - r.length, 0) | .error e => (0, e)
theorem endOf_loop (l : List POp) (hl : l.length ≤ 1000000) (d : Nat) : ∀ (i w : Nat), i + d = l.length → w ≤ 2 * i + 1 → 0 < w → Ev (fun k => foretellref_endOf.l0 k l (w : Int) i) (endRes l (scan (l.drop i) w)) := by
  induction d with
  | zero =>
    intro i w hi hw hw0
    rw [List.drop_of_length_le (by omega)]
    obtain ⟨w, rfl⟩ : ∃ m, w = m + 1 := ⟨w - 1, by omega⟩
    exact ev_now (fun k => by simp (disch := omega) only [foretellref_endOf.l0, if_neg, scan_nil, endRes])
  | succ d ih =>
    intro i w hi hw hw0
    have hlt : i < l.length := by omega
    have hg : rd_T65 l i = l[i] := getD_get _ _ _ hlt
    obtain ⟨w, rfl⟩ : ∃ m, w = m + 1 := ⟨w - 1, by omega⟩
    rw [List.drop_eq_getElem_cons hlt, scan_cons]
    obtain ⟨o, ho⟩ : ∃ o, o = l[i] := ⟨_, rfl⟩
    rw [← ho] at hg ⊢
    have hp := partsOf_ev o.f0
    obtain ⟨n, e, hpq⟩ : ∃ n e, partsS o.f0 = (n, e) := ⟨_, _, rfl⟩
    have hb := partsS_bd (a := o.f0)
    rw [hpq] at hb hp ⊢
    simp only at hb ⊢
    refine Ev.step (f := fun k => (foretellref_PartsOf.f k o.f0).bind fun bt109 => (if bt109.2 = 0 then (if (wrap64 ((wrap64 (((w + 1 : Nat) : Int) + bt109.1)) - 1)) = 0 then (some (wrap64 ((i : Int) + 1), 0)) else (foretellref_endOf.l0 k l (wrap64 ((wrap64 (((w + 1 : Nat) : Int) + bt109.1)) - 1)) (wrap64 ((i : Int) + 1)))) else (some (0, bt109.2)))) (fun k => by simp (disch := omega) only [foretellref_endOf.l0, if_pos, hg]) ?_
    refine ev_bind hp ?_
    by_cases c : e = 0
    · obtain ⟨b0, b1⟩ := hb c
      simp only [if_pos c, wrap_id (show -9223372036854775808 ≤ ((w + 1 : Nat) : Int) + n by omega) (by omega), wrap_id (show -9223372036854775808 ≤ ((w + 1 : Nat) : Int) + n - 1 by omega) (by omega), wrap_id (show -9223372036854775808 ≤ (i : Int) + 1 by omega) (by omega)]
      by_cases c2 : ((w + 1 : Nat) : Int) + n - 1 = 0
      · simp only [if_pos c2]
        rw [show w + n.toNat = 0 by omega, scan_zero]
        refine ev_const (fun k => ?_)
        simp only [endRes, List.length_drop]
        congr 2
        omega
      · simp only [if_neg c2]
        have e2 : ((w + 1 : Nat) : Int) + n - 1 = ((w + n.toNat : Nat) : Int) := by omega
        rw [e2]
        exact ih (i + 1) (w + n.toNat) (by omega) (by omega) (by omega)
    · simp only [if_neg c]
      exact Ev.now _
theorem endOf_ev (l : List POp) (hl : l.length ≤ 1000000) (i : Nat) (hi : i ≤ l.length) : Ev (fun k => foretellref_endOf.f k l (i : Int)) (endRes l (scan (l.drop i) 1)) := endOf_loop l hl (l.length - i) i 1 (by omega) (by omega) (by omega)
theorem endRes_fst (l : List POp) (i : Nat) : (endRes l (scan (l.drop i) 1)).1 = endAt l i := by
  unfold endRes endAt
  split <;> simp_all
theorem endsOf_loop (l : List POp) (hl : l.length ≤ 1000000) (d : Nat) : ∀ (i : Nat), i + d = l.length → Ev (fun k => foretellref_EndsOf.l0 k l ((List.range i).map (endAt l)) i) ((List.range l.length).map (endAt l), 0) := by
  induction d with
  | zero =>
    intro i hi
    obtain rfl : i = l.length := by omega
    exact ev_now (fun k => by simp (disch := omega) only [foretellref_EndsOf.l0, if_neg])
  | succ d ih =>
    intro i hi
    have hq : ((List.range i).map (endAt l)).length < 17592186044416 := by simp; omega
    refine Ev.step (f := fun k => (foretellref_endOf.f k l (i : Int)).bind fun bt113 => foretellref_EndsOf.l0 k l ((List.range i).map (endAt l) ++ [bt113.1]) ((i + 1 : Nat) : Int)) (fun k => ?_) (ev_bind (endOf_ev l hl i (by omega)) ?_)
    · simp (disch := omega) only [foretellref_EndsOf.l0, if_pos, wrap_id]
      rfl
    · rw [endRes_fst]
      have : (List.range i).map (endAt l) ++ [endAt l i] = (List.range (i + 1)).map (endAt l) := by rw [List.range_succ, List.map_append]; rfl
      rw [this]
      exact ih (i + 1) (by omega)
theorem endsOf_ev (l : List POp) : Ev (fun k => foretellref_EndsOf.f k l) (endsS l) := by
  unfold foretellref_EndsOf.f endsS
  by_cases c : l.length > 60
  · have c' : (l.length : Int) > 60 := by omega
    simp only [if_pos c, if_pos c']
    exact Ev.now _
  · have c' : ¬ (l.length : Int) > 60 := by omega
    simp only [if_neg c, if_neg c']
    have h := endOf_ev l (by omega) 0 (by omega)
    rw [List.drop_zero] at h
    cases hs : scan l 1 with
    | error e =>
      have he : e ≠ 0 := by rcases scan_err _ _ _ hs with h | h <;> omega
      have h : Ev (fun k => foretellref_endOf.f k l ((0 : Nat) : Int)) (0, e) := by rw [hs] at h; exact h
      refine ev_bind h ?_
      simp only [if_neg he]
      exact Ev.now _
    | ok r =>
      have h : Ev (fun k => foretellref_endOf.f k l ((0 : Nat) : Int)) ((l.length : Int) - (r.length : Int), 0) := by rw [hs] at h; exact h
      refine ev_bind h ?_
      simp only [if_true]
      by_cases hr : r = []
      · subst hr
        have hn : ¬ ((l.length : Int) - (([] : List POp).length : Int) < (l.length : Int)) := by simp
        refine Ev.congr (f := fun k => foretellref_EndsOf.l0 k l ((List.range 0).map (endAt l)) ((0 : Nat) : Int)) (fun k => by rw [if_neg hn]; rfl) ?_
        exact endsOf_loop l (by omega) l.length 0 (by omega)
      · have hn : (l.length : Int) - (r.length : Int) < (l.length : Int) := by
          have := List.length_pos_iff.2 hr
          omega
        exact ev_const (fun k => by rw [if_pos hn, if_neg hr])
theorem endsS_ok {l : List POp} (h : (endsS l).2 = 0) : one l ∧ l.length ≤ 60 ∧ endsS l = ((List.range l.length).map (endAt l), 0) := by
  unfold endsS at h ⊢
  by_cases c : l.length > 60
  · rw [if_pos c] at h; cases h
  rw [if_neg c] at h ⊢
  cases hs : scan l 1 with
  | error e =>
    rw [hs] at h
    rcases scan_err _ _ _ hs with rfl | rfl <;> cases h
  | ok r =>
    rw [hs] at h
    simp only at h ⊢
    by_cases hr : r = []
    · subst hr
      exact ⟨hs, by omega, by simp⟩
    · rw [if_neg hr] at h; cases h
end Go.Proofs.YthffpjkkmkjplaaDoor.Pure
-- Cut by a program of this session (wip/prune.py) from a longer text: declarations that the law does not need are left out.
namespace Go.Proofs.YthffpjkkmkjplaaDoor.Pure
open Go.RowKit Go.Proofs.YthffpjkkmkjplaaDoor Go.Proofs.YthffpjkkmkjplaaDoor.Q Go.Proofs.YthffpjkkmkjplaaDoor.Base Go.Proofs.YthffpjkkmkjplaaDoorW.PrintWords Go.Proofs.YthffpjkkmkjplaaDoorW.PrintLast Go.Proofs.YthffpjkkmkjplaaDoorW.PrintMore
set_option linter.unusedVariables false
set_option linter.unusedSimpArgs false
def fit (n : Int) (o : POp) : Int := if o.f0 < 8 then 13 else if o.f0 = 13 then (if o.f1 < 0 ∨ n ≤ o.f1 then 2 else 0) else if o.f1 = 0 then 0 else 2
def ahd (a : Int) : Bool := decide (14 ≤ a ∧ a ≤ 18)
def chk (n : Int) : List POp → Nat → Int
  | [], c => if c > 6 then 1 else 0
  | o :: l, c => if fit n o = 0 then chk n l (c + if ahd o.f0 then 1 else 0) else fit n o
theorem fits_eq (n : Int) (o : POp) : logic_fits.f o.f0 o.f1 n = some (fit n o) := by
  unfold logic_fits.f fit
  by_cases h1 : o.f0 < 8
  · simp only [if_pos h1]
  simp only [if_neg h1]
  by_cases h2 : o.f0 = 13
  · simp only [if_pos h2]
    by_cases h3 : o.f1 < 0
    · rw [if_pos h3, if_pos (.inl h3)]
    rw [if_neg h3]
    by_cases h4 : o.f1 ≥ n
    · rw [if_pos h4, if_pos (.inr h4)]
    · rw [if_neg h4, if_neg (by omega)]
  · simp only [if_neg h2]
    split <;> rfl
theorem in_eq (a b c : Int) : foretellref_In.f a b c = some (decide (b ≤ a ∧ a ≤ c)) := by
  unfold foretellref_In.f
  by_cases h : a ≥ b
  · rw [if_pos h]
    congr 1
    simp only [decide_eq_decide]
    omega
  · rw [if_neg h]
    congr 1
    exact (decide_eq_false (by omega)).symm
theorem ahead_eq (a : Int) : logic_ahead.f a = some (ahd a) := by
  unfold logic_ahead.f ahd
  by_cases h : a ≥ 14
  · rw [if_pos h]
    congr 1
    simp only [decide_eq_decide]
    omega
  · rw [if_neg h]
    congr 1
    exact (decide_eq_false (by omega)).symm
theorem looksAhead_eq (a : Int) : foretellref_looksAhead.f a = some (ahd a) := by
  unfold foretellref_looksAhead.f
  rw [in_eq]
  rfl
theorem check_loop (l : List POp) (hl : l.length ≤ 1000000) (n : Int) (d : Nat) : ∀ (i c : Nat), i + d = l.length → c ≤ i → Ev (fun k => logic_Check.l0 k n (c : Int) l (l.length : Int) i) (chk n (l.drop i) c) := by
  induction d with
  | zero =>
    intro i c hi hc
    rw [List.drop_of_length_le (by omega)]
    refine ev_now (fun k => ?_)
    simp (disch := omega) only [logic_Check.l0, if_neg, chk]
    by_cases h : c > 6
    · rw [if_pos h, if_pos (by omega)]
    · rw [if_neg h, if_neg (by omega)]
  | succ d ih =>
    intro i c hi hc
    have hlt : i < l.length := by omega
    have hg : rd_T65 l i = l[i] := getD_get _ _ _ hlt
    rw [List.drop_eq_getElem_cons hlt]
    unfold chk
    by_cases hf : fit n l[i] = 0
    · rw [if_pos hf]
      by_cases ha : ahd l[i].f0 = true
      · rw [if_pos ha]
        refine Ev.step (fun k => ?_) (ih (i + 1) (c + 1) (by omega) (by omega))
        simp (disch := omega) only [logic_Check.l0, if_pos, hg, fits_eq, ahead_eq, hf, ha, Option.bind_some, wrap_id]
        rfl
      · rw [if_neg ha]
        refine Ev.step (fun k => ?_) (ih (i + 1) c (by omega) (by omega))
        simp (disch := omega) only [logic_Check.l0, if_pos, hg, fits_eq, ahead_eq, hf, if_neg ha, Option.bind_some, wrap_id]
        rfl
    · rw [if_neg hf]
      refine ev_now (fun k => ?_)
      simp (disch := omega) only [logic_Check.l0, if_pos, hg, fits_eq, if_neg hf, Option.bind_some]
def checkS (l : List POp) (n : Int) : Int := if 0 ≤ n ∧ n ≤ 6 then (if (endsS l).2 = 0 then chk n l 0 else (endsS l).2) else 2
theorem check_ev (l : List POp) (n : Int) : Ev (fun k => logic_Check.f k l n) (checkS l n) := by
  have key : Ev (fun k => logic_Check.j0 k l n (decide (n < 0 ∨ n > 6))) (checkS l n) := by
    unfold checkS
    by_cases h : 0 ≤ n ∧ n ≤ 6
    · rw [if_pos h, decide_eq_false (by omega)]
      refine Ev.step (f := fun k => (polish_Ends.f l).bind fun bt205 => (if bt205.2 = 0 then (logic_Check.l0 k n 0 l (l.length : Int) 0) else (some bt205.2))) (fun k => by simp only [logic_Check.j0, Bool.false_eq_true, if_false]) ?_
      refine ev_call (a := endsS l) rfl ?_
      by_cases he : (endsS l).2 = 0
      · simp only [if_pos he]
        exact check_loop l (by have := (endsS_ok he).2.1; omega) n l.length 0 0 (by omega) (by omega)
      · simp only [if_neg he]
        exact Ev.now _
    · rw [if_neg h, decide_eq_true (by omega)]
      exact ev_now (fun k => by simp only [logic_Check.j0, if_true])
  refine Ev.congr (fun k => ?_) key
  unfold logic_Check.f
  by_cases h : n < 0
  · rw [if_pos h, decide_eq_true (.inl h)]
  · rw [if_neg h]
    congr 1
    simp only [decide_eq_decide]
    omega
theorem fault_loop (l : List POp) (hl : l.length ≤ 1000000) (n : Int) (hn : 0 ≤ n ∧ n ≤ 6) (d : Nat) : ∀ (i c : Nat), i + d = l.length → c ≤ i → Ev (fun k => foretellref_FormulaFault.l0 k l n (c : Int) i) (chk n (l.drop i) c) := by
  induction d with
  | zero =>
    intro i c hi hc
    rw [List.drop_of_length_le (by omega)]
    refine ev_now (fun k => ?_)
    simp (disch := omega) only [foretellref_FormulaFault.l0, if_neg, chk]
    by_cases h : c > 6
    · rw [if_pos h, if_pos (by omega)]
    · rw [if_neg h, if_neg (by omega)]
  | succ d ih =>
    intro i c hi hc
    have hlt : i < l.length := by omega
    have hg : rd_T65 l i = l[i] := getD_get _ _ _ hlt
    rw [List.drop_eq_getElem_cons hlt]
    unfold chk
    by_cases h8 : l[i].f0 < 8
    · rw [if_neg (by unfold fit; rw [if_pos h8]; decide)]
      refine ev_now (fun k => ?_)
      simp (disch := omega) only [foretellref_FormulaFault.l0, if_pos, hg, if_pos h8]
      unfold fit
      rw [if_pos h8]
    obtain ⟨m, hm, hfm⟩ : ∃ m : Int, (m = if l[i].f0 = 13 then n - 1 else 0) ∧ fit n l[i] = if (0 ≤ l[i].f1 ∧ l[i].f1 ≤ m) then 0 else 2 := by
      refine ⟨_, rfl, ?_⟩
      unfold fit
      rw [if_neg h8]
      by_cases h13 : l[i].f0 = 13
      · simp only [if_pos h13]
        by_cases c : l[i].f1 < 0 ∨ n ≤ l[i].f1
        · rw [if_pos c, if_neg (by omega)]
        · rw [if_neg c, if_pos (by omega)]
      · simp only [if_neg h13]
        by_cases c : l[i].f1 = 0
        · rw [if_pos c, if_pos (by omega)]
        · rw [if_neg c, if_neg (by omega)]
    have h0 : ∀ k, foretellref_FormulaFault.l0 (k + 1) l n c i = foretellref_FormulaFault.j1 k l n c i m := by
      intro k
      rw [hm]
      by_cases h13 : l[i].f0 = 13
      · simp (disch := omega) only [foretellref_FormulaFault.l0, if_pos, hg, if_neg h8, if_pos h13, wrap_id]
      · simp (disch := omega) only [foretellref_FormulaFault.l0, if_pos, hg, if_neg h8, if_neg h13, wrap_id]
    by_cases hf : 0 ≤ l[i].f1 ∧ l[i].f1 ≤ m
    · rw [if_pos hf] at hfm
      rw [if_pos hfm]
      by_cases ha : ahd l[i].f0 = true
      · rw [if_pos ha]
        refine ev_steps 2 (fun k => ?_) (ih (i + 1) (c + 1) (by omega) (by omega))
        rw [h0 (k + 1)]
        simp (disch := omega) only [foretellref_FormulaFault.j1, if_pos, hg, in_eq, looksAhead_eq, ha, decide_eq_true hf, Option.bind_some, wrap_id]
        rfl
      · rw [if_neg ha]
        refine ev_steps 2 (fun k => ?_) (ih (i + 1) c (by omega) (by omega))
        rw [h0 (k + 1)]
        simp (disch := omega) only [foretellref_FormulaFault.j1, if_pos, hg, in_eq, looksAhead_eq, if_neg ha, decide_eq_true hf, Option.bind_some, wrap_id]
        rfl
    · rw [if_neg hf] at hfm
      rw [if_neg (by rw [hfm]; decide)]
      refine ev_nows 2 (fun k => ?_)
      rw [h0 (k + 1)]
      simp (disch := omega) only [foretellref_FormulaFault.j1, if_pos, hg, in_eq, decide_eq_false hf, Bool.false_eq_true, if_false, Option.bind_some, hfm]
theorem formulaFault_ev (l : List POp) (n : Int) : Ev (fun k => foretellref_FormulaFault.f k l n) (checkS l n) := by
  unfold foretellref_FormulaFault.f checkS
  refine ev_call (in_eq n 0 6) ?_
  by_cases h : 0 ≤ n ∧ n ≤ 6
  · simp only [decide_eq_true h, if_true, if_pos h]
    refine ev_bind (endsOf_ev l) ?_
    by_cases he : (endsS l).2 = 0
    · simp only [if_pos he]
      exact fault_loop l (by have := (endsS_ok he).2.1; omega) n h l.length 0 0 (by omega) (by omega)
    · simp only [if_neg he]
      exact Ev.now _
  · simp only [decide_eq_false h, Bool.false_eq_true, if_false, if_neg h]
    exact Ev.now _
theorem checkS_ok {l : List POp} {n : Int} (h : checkS l n = 0) : (0 ≤ n ∧ n ≤ 6) ∧ one l ∧ l.length ≤ 60 ∧ endsS l = ((List.range l.length).map (endAt l), 0) := by
  unfold checkS at h
  by_cases c : 0 ≤ n ∧ n ≤ 6
  · rw [if_pos c] at h
    by_cases he : (endsS l).2 = 0
    · exact ⟨c, endsS_ok he⟩
    · rw [if_neg he] at h; exact absurd h he
  · rw [if_neg c] at h; cases h
end Go.Proofs.YthffpjkkmkjplaaDoor.Pure
-- Cut by a program of this session (wip/prune.py) from a longer text: declarations that the law does not need are left out.
namespace Go.Proofs.YthffpjkkmkjplaaDoor.Pure
open Go.RowKit Go.Proofs.YthffpjkkmkjplaaDoor Go.Proofs.YthffpjkkmkjplaaDoor.Q Go.Proofs.YthffpjkkmkjplaaDoor.Base Go.Proofs.YthffpjkkmkjplaaDoorW.PrintWords Go.Proofs.YthffpjkkmkjplaaDoorW.PrintLast Go.Proofs.YthffpjkkmkjplaaDoorW.PrintMore
set_option linter.unusedVariables false
set_option linter.unusedSimpArgs false
def aheadL : List POp → Nat → List Int
  | [], _ => []
  | o :: l, i => if ahd o.f0 then (i : Int) :: aheadL l (i + 1) else aheadL l (i + 1)
theorem ahead_loop (l : List POp) (hl : l.length ≤ 1000000) (d : Nat) : ∀ (i : Nat) (acc : List Int), i + d = l.length → acc.length ≤ i → Ev (fun k => logic_Ahead.l0 k acc l (l.length : Int) i) (acc ++ aheadL (l.drop i) i, 0) := by
  induction d with
  | zero =>
    intro i acc hi ha
    rw [List.drop_of_length_le (by omega)]
    exact ev_now (fun k => by simp (disch := omega) only [logic_Ahead.l0, if_neg, aheadL, List.append_nil])
  | succ d ih =>
    intro i acc hi ha
    have hlt : i < l.length := by omega
    have hg : rd_T65 l i = l[i] := getD_get _ _ _ hlt
    rw [List.drop_eq_getElem_cons hlt]
    unfold aheadL
    by_cases h : ahd l[i].f0 = true
    · rw [if_pos h]
      refine Ev.step (fun k => ?_) (ev_eq (ih (i + 1) (acc ++ [(i : Int)]) (by omega) (by simp; omega)) (by simp))
      simp (disch := omega) only [logic_Ahead.l0, if_pos, hg, ahead_eq, h, Option.bind_some, wrap_id]
      rfl
    · rw [if_neg h]
      refine Ev.step (fun k => ?_) (ih (i + 1) acc (by omega) (by omega))
      simp (disch := omega) only [logic_Ahead.l0, if_pos, hg, ahead_eq, if_neg h, Option.bind_some, wrap_id]
      rfl
def aheadS (l : List POp) (n : Int) : List Int × Int := if checkS l n = 0 then (aheadL l 0, 0) else ([], checkS l n)
theorem ahead_ev (l : List POp) (n : Int) : Ev (fun k => logic_Ahead.f k l n) (aheadS l n) := by
  unfold logic_Ahead.f aheadS
  refine ev_bind (check_ev l n) ?_
  by_cases h : checkS l n = 0
  · simp only [if_pos h]
    exact ahead_loop l (by have := (checkS_ok h).2.2.1; omega) l.length 0 [] (by omega) (by simp)
  · simp only [if_neg h]
    exact Ev.now _
def cA : List POp → Nat
  | [] => 0
  | o :: l => (if ahd o.f0 then 1 else 0) + cA l
theorem aheadL_cA : ∀ (l : List POp) (i : Nat), (aheadL l i).length = cA l
  | [], _ => rfl
  | o :: l, i => by
    have := aheadL_cA l (i + 1)
    unfold aheadL cA
    by_cases h : ahd o.f0 = true
    · rw [if_pos h, if_pos h, List.length_cons, this]; omega
    · rw [if_neg h, if_neg h, this]; omega
theorem cA_append : ∀ (l m : List POp), cA (l ++ m) = cA l + cA m
  | [], m => by simp [cA]
  | o :: l, m => by rw [List.cons_append, cA, cA_append l m, cA]; omega
theorem cA_take (l : List POp) (i : Nat) (h : i < l.length) : cA (l.take (i + 1)) = cA (l.take i) + if ahd l[i].f0 then 1 else 0 := by
  rw [List.take_succ_eq_append_getElem h, cA_append]
  rfl
theorem chk_cA (n : Int) : ∀ (l : List POp) (c : Nat), chk n l c = 0 → c + cA l ≤ 6 ∧ ∀ o ∈ l, fit n o = 0
  | [], c, h => by
    unfold chk at h
    by_cases h6 : c > 6
    · rw [if_pos h6] at h; cases h
    · exact ⟨by simp [cA]; omega, by simp⟩
  | o :: l, c, h => by
    unfold chk at h
    by_cases hf : fit n o = 0
    · rw [if_pos hf] at h
      obtain ⟨h1, h2⟩ := chk_cA n l _ h
      refine ⟨by unfold cA; omega, fun x hx => ?_⟩
      rcases List.mem_cons.1 hx with rfl | hx
      · exact hf
      · exact h2 x hx
    · rw [if_neg hf] at h; exact absurd h hf
theorem checkS_fit {l : List POp} {n : Int} (h : checkS l n = 0) : cA l ≤ 6 ∧ ∀ o ∈ l, fit n o = 0 := by
  unfold checkS at h
  by_cases c : 0 ≤ n ∧ n ≤ 6
  · rw [if_pos c] at h
    by_cases he : (endsS l).2 = 0
    · rw [if_pos he] at h
      have := chk_cA n l 0 h
      simpa using this
    · rw [if_neg he] at h; exact absurd h he
  · rw [if_neg c] at h; cases h
theorem second_at {l : List POp} (h1 : one l) (i : Nat) (hi : i < l.length) (ha : arIs l[i] 2) : i + 1 < l.length ∧ endAt l (i + 1) = (i : Int) + 1 + endAt (l.drop (i + 1)) 0 ∧ endAt l (i + 1) < (l.length : Int) ∧ 0 ≤ endAt (l.drop (i + 1)) 0 := by
  obtain ⟨r, hr⟩ := one_places l h1 i hi
  rw [List.drop_eq_getElem_cons hi, scan_cons, ha] at hr
  simp only [if_true] at hr
  obtain ⟨p, q, hpq, hp, hq, _⟩ := scan_split (n := 1) hr
  obtain ⟨p2, q2, hpq2, hp2, hq2, _⟩ := scan_split (n := 0) hq
  have h1 := one_pos hp
  have h2 := one_pos hp2
  have hlen : l.length - (i + 1) = p.length + (p2.length + q2.length) := by
    have := congrArg List.length hpq
    rw [List.length_drop, List.length_append, hpq2, List.length_append] at this
    exact this
  have e1 : endAt l (i + 1) = ((i + 1 + p.length : Nat) : Int) := by
    unfold endAt
    rw [hpq, scan_append p 1 [] q hp]
    simp only [List.nil_append, hpq2, List.length_append]
    omega
  have e2 : endAt (l.drop (i + 1)) 0 = (p.length : Int) := by
    unfold endAt
    rw [List.drop_zero, hpq, scan_append p 1 [] q hp]
    simp only [List.nil_append, List.length_append]
    omega
  rw [e1, e2]
  omega
theorem first_at {l : List POp} (h1 : one l) (i : Nat) (hi : i < l.length) (n : Nat) (ha : arIs l[i] (n + 1)) : i + 1 < l.length := by
  obtain ⟨r, hr⟩ := one_places l h1 i hi
  rw [List.drop_eq_getElem_cons hi, scan_cons, ha] at hr
  simp only [if_true] at hr
  rcases Nat.lt_or_ge (i + 1) l.length with h | h
  · exact h
  · rw [List.drop_of_length_le h] at hr
    have e : (0 + (((n + 1 : Nat) : Int), (0 : Int)).1.toNat) = n + 1 := by simp
    rw [e] at hr
    cases hr
end Go.Proofs.YthffpjkkmkjplaaDoor.Pure
-- Cut by a program of this session (wip/prune.py) from a longer text: declarations that the law does not need are left out.
namespace Go.Proofs.YthffpjkkmkjplaaDoor.Pure
open Go.RowKit Go.Proofs.YthffpjkkmkjplaaDoor Go.Proofs.YthffpjkkmkjplaaDoor.Q Go.Proofs.YthffpjkkmkjplaaDoor.Base Go.Proofs.YthffpjkkmkjplaaDoorW.PrintWords Go.Proofs.YthffpjkkmkjplaaDoorW.PrintLast Go.Proofs.YthffpjkkmkjplaaDoorW.PrintMore
set_option linter.unusedVariables false
set_option linter.unusedSimpArgs false
theorem aheadL_get : ∀ (l : List POp) (i b : Nat) (h : i < l.length), ahd l[i].f0 = true → (aheadL l b)[cA (l.take i)]? = some ((b + i : Nat) : Int)
  | o :: l, 0, b, h, ha => by
    have ha : ahd o.f0 = true := ha
    simp [aheadL, cA, ha]
  | o :: l, i + 1, b, h, ha => by
    have ih := aheadL_get l i (b + 1) (by simpa using h) (by simpa using ha)
    unfold aheadL
    rw [List.take_succ_cons, cA]
    by_cases c : ahd o.f0 = true
    · rw [if_pos c, if_pos c, Nat.add_comm 1, List.getElem?_cons_succ, ih]
      congr 2; omega
    · rw [if_neg c, if_neg c, Nat.zero_add, ih]
      congr 2; omega
theorem aheadL_bd : ∀ (l : List POp) (b : Nat) (p : Int), p ∈ aheadL l b → (b : Int) ≤ p ∧ p < (b : Int) + l.length
  | [], b, p, h => by simp [aheadL] at h
  | o :: l, b, p, h => by
    unfold aheadL at h
    split at h
    · rcases List.mem_cons.1 h with rfl | h
      · simp only [List.length_cons]; omega
      · have := aheadL_bd l (b + 1) p h; simp only [List.length_cons]; omega
    · have := aheadL_bd l (b + 1) p h; simp only [List.length_cons]; omega
end Go.Proofs.YthffpjkkmkjplaaDoor.Pure
-- Cut by a program of this session (wip/prune.py) from a longer text: declarations that the law does not need are left out.
namespace Go.Proofs.YthffpjkkmkjplaaDoor.Pure
open Go.RowKit Go.Proofs.YthffpjkkmkjplaaDoorW.PrintWords Go.Proofs.YthffpjkkmkjplaaDoorW.PrintLast Go.Proofs.YthffpjkkmkjplaaDoorW.PrintMore
set_option linter.unusedVariables false
def pw (b : Nat) : Int := 2 ^ b
theorem pw_succ (b : Nat) : pw (b + 1) = pw b * 2 := Int.pow_succ 2 b
theorem pw_bd {b : Nat} (h : b ≤ 6) : 1 ≤ pw b ∧ pw b ≤ 64 := by
  have : b = 0 ∨ b = 1 ∨ b = 2 ∨ b = 3 ∨ b = 4 ∨ b = 5 ∨ b = 6 := by omega
  rcases this with e | e | e | e | e | e | e <;> (rw [e]; decide)
theorem or_all : ∀ b : Fin 6, ∀ o : Fin 32, (o.val : Int) < 2 ^ b.val → Go.bits .or .i64 (o.val : Int) (shl .i64 1 (b.val : Int)) = (o.val : Int) + 2 ^ b.val := by decide +kernel
theorem or_pw {b : Nat} (hb : b ≤ 5) {o : Int} (h0 : 0 ≤ o) (h1 : o < pw b) : Go.bits .or .i64 o (shl .i64 1 (b : Int)) = o + pw b := by
  have hp : pw b ≤ 32 := by
    have : b = 0 ∨ b = 1 ∨ b = 2 ∨ b = 3 ∨ b = 4 ∨ b = 5 := by omega
    rcases this with e | e | e | e | e | e <;> (rw [e]; decide)
  obtain ⟨n, rfl⟩ := Int.eq_ofNat_of_zero_le h0
  exact or_all ⟨b, by omega⟩ ⟨n, by omega⟩ h1
end Go.Proofs.YthffpjkkmkjplaaDoor.Pure
-- Cut by a program of this session (wip/prune.py) from a longer text: declarations that the law does not need are left out.
namespace Go.Proofs.YthffpjkkmkjplaaDoor.Pure
open Go.RowKit Go.Proofs.YthffpjkkmkjplaaDoor Go.Proofs.YthffpjkkmkjplaaDoor.Base Go.Proofs.YthffpjkkmkjplaaDoorW.PrintWords Go.Proofs.YthffpjkkmkjplaaDoorW.PrintLast Go.Proofs.YthffpjkkmkjplaaDoorW.PrintMore
set_option linter.unusedVariables false
set_option linter.unusedSimpArgs false
def bitAt (RW : List (List Bool)) (ps : List Int) (i j : Nat) : Bool := (RW.getD (ps.getD j 0).toNat []).getD i false
def cIn (RW : List (List Bool)) (ps : List Int) (i : Nat) : Nat → Int
  | 0 => 0
  | j + 1 => cIn RW ps i j + (if bitAt RW ps i j = true then pw j else 0)
theorem cIn_bd (RW : List (List Bool)) (ps : List Int) (i : Nat) : ∀ j, j ≤ 6 → 0 ≤ cIn RW ps i j ∧ cIn RW ps i j < pw j
  | 0, _ => by unfold cIn pw; decide
  | j + 1, h => by
    have ih := cIn_bd RW ps i j (by omega)
    have hp := pw_bd (show j ≤ 6 by omega)
    rw [pw_succ, cIn]
    split <;> omega
def midS (RW : List (List Bool)) (ps : List Int) (n j t : Nat) : List Int := (List.range n).map fun i => cIn RW ps i (if i < t then j + 1 else j)
def outS (RW : List (List Bool)) (ps : List Int) (n j : Nat) : List Int := (List.range n).map fun i => cIn RW ps i j
theorem midS_len (RW : List (List Bool)) (ps : List Int) (n j t : Nat) : (midS RW ps n j t).length = n := by simp [midS]
theorem outS_len (RW : List (List Bool)) (ps : List Int) (n j : Nat) : (outS RW ps n j).length = n := by simp [outS]
theorem midS_zero (RW : List (List Bool)) (ps : List Int) (n j : Nat) : midS RW ps n j 0 = outS RW ps n j := by simp [midS, outS]
theorem midS_end (RW : List (List Bool)) (ps : List Int) (n j : Nat) : midS RW ps n j n = outS RW ps n (j + 1) := by
  unfold midS outS
  refine List.map_congr_left fun i hi => ?_
  rw [if_pos (List.mem_range.1 hi)]
theorem outS_zero (RW : List (List Bool)) (ps : List Int) (n : Nat) : outS RW ps n 0 = List.replicate n 0 := by
  unfold outS cIn
  rw [List.map_const', List.length_range]
theorem midS_at (RW : List (List Bool)) (ps : List Int) (n j t : Nat) (ht : t < n) : rd (midS RW ps n j t) (t : Int) = cIn RW ps t j := by
  rw [rd_get _ _ (by rw [midS_len]; exact ht)]
  simp [midS]
theorem midS_get (RW : List (List Bool)) (ps : List Int) (n j t i : Nat) (h : i < (midS RW ps n j t).length) : (midS RW ps n j t)[i] = cIn RW ps i (if i < t then j + 1 else j) := by simp [midS]
theorem midS_set (RW : List (List Bool)) (ps : List Int) (n j t : Nat) (ht : t < n) (hb : bitAt RW ps t j = true) (x : Int) (hx : x = cIn RW ps t j + pw j) : (midS RW ps n j t).set t x = midS RW ps n j (t + 1) := by
  refine List.ext_getElem (by rw [List.length_set, midS_len, midS_len]) fun i h1 h2 => ?_
  rw [List.getElem_set, midS_get, midS_get]
  by_cases e : t = i
  · subst e
    rw [if_pos rfl, if_pos (by omega), cIn, if_pos hb, hx]
  · rw [if_neg e]
    by_cases h : i < t
    · rw [if_pos h, if_pos (by omega)]
    · rw [if_neg h, if_neg (by omega)]
theorem midS_skip (RW : List (List Bool)) (ps : List Int) (n j t : Nat) (hb : bitAt RW ps t j = false) : midS RW ps n j t = midS RW ps n j (t + 1) := by
  unfold midS
  refine List.map_congr_left fun i hi => ?_
  by_cases e : i = t
  · subst e
    rw [if_neg (by omega), if_pos (by omega), cIn, hb]
    simp
  · by_cases h : i < t
    · rw [if_pos h, if_pos (by omega)]
    · rw [if_neg h, if_neg (by omega)]
end Go.Proofs.YthffpjkkmkjplaaDoor.Pure
-- Cut by a program of this session (wip/prune.py) from a longer text: declarations that the law does not need are left out.
namespace Go.Proofs.YthffpjkkmkjplaaDoor.Pure
set_option linter.unusedVariables false
set_option linter.unusedSectionVars false
set_option linter.unusedSimpArgs false
def pS (n c m : Nat) : Nat := if h : m < n ∨ c = 0 ∨ n < c then m else pS n c (m - c)
termination_by m
decreasing_by omega
theorem pS_lt {n c m : Nat} (h : m < n) : pS n c m = m := by rw [pS, dif_pos (.inl h)]
theorem pS_ge {n c m : Nat} (h : n ≤ m) (hc : 0 < c) (hn : c ≤ n) : pS n c m = pS n c (m - c) := by rw [pS, dif_neg (by omega)]
theorem pS_in {n c : Nat} (hc : 0 < c) (hn : c ≤ n) : ∀ m, pS n c m < n := by
  intro m
  induction m using Nat.strongRecOn with
  | ind m ih =>
    rcases Nat.lt_or_ge m n with h | h
    · rw [pS_lt h]; exact h
    · rw [pS_ge h hc hn]; exact ih _ (by omega)
def behS (n b i : Nat) : Nat := if i + 1 < n then i + 1 else b
theorem behS_pS {n c : Nat} (hc : 0 < c) (hn : c ≤ n) : ∀ m, behS n (n - c) (pS n c m) = pS n c (m + 1) := by
  intro m
  induction m using Nat.strongRecOn with
  | ind m ih =>
    rcases Nat.lt_or_ge m n with h | h
    · rw [pS_lt h]
      unfold behS
      rcases Nat.lt_or_ge (m + 1) n with h1 | h1
      · rw [if_pos h1, pS_lt h1]
      · rw [if_neg (by omega), pS_ge h1 hc hn, pS_lt (by omega)]
        omega
    · rw [pS_ge h hc hn, ih _ (by omega), pS_ge (show n ≤ m + 1 by omega) hc hn]
      congr 1
      omega
def uA (n c : Nat) (A B : Nat → Bool) : Nat → Nat → Bool
  | 0, m => B (pS n c m)
  | k + 1, m => B (pS n c m) || (A (pS n c m) && uA n c A B k (m + 1))
theorem uA_iff (n c : Nat) (A B : Nat → Bool) : ∀ k m, uA n c A B k m = true ↔ ∃ t, t ≤ k ∧ B (pS n c (m + t)) = true ∧ ∀ s, s < t → A (pS n c (m + s)) = true := by
  intro k
  induction k with
  | zero =>
    intro m
    constructor
    · intro h; exact ⟨0, Nat.le_refl _, h, fun s hs => by omega⟩
    · rintro ⟨t, ht, h, _⟩
      obtain rfl : t = 0 := by omega
      exact h
  | succ k ih =>
    intro m
    rw [uA, Bool.or_eq_true, Bool.and_eq_true, ih]
    constructor
    · rintro (h | ⟨h, t, ht, h1, h2⟩)
      · exact ⟨0, Nat.zero_le _, h, fun s hs => by omega⟩
      · refine ⟨t + 1, by omega, by rw [← h1]; congr 2; omega, fun s hs => ?_⟩
        cases s with
        | zero => exact h
        | succ s => have := h2 s (by omega); rw [← this]; congr 2; omega
    · rintro ⟨t, ht, h1, h2⟩
      cases t with
      | zero => exact .inl h1
      | succ t =>
        refine .inr ⟨h2 0 (by omega), t, by omega, by rw [← h1]; congr 2; omega, fun s hs => ?_⟩
        have := h2 (s + 1) (by omega); rw [← this]; congr 2; omega
theorem uA_more {n c : Nat} (A B : Nat → Bool) (hc : 0 < c) (hn : c ≤ n) (k m : Nat) (hk : n ≤ k) : uA n c A B (k + 1) m = uA n c A B k m := by
  rw [Bool.eq_iff_iff, uA_iff, uA_iff]
  constructor
  · rintro ⟨t, ht, h1, h2⟩
    rcases Nat.lt_or_ge k t with h | h
    · refine ⟨t - c, by omega, ?_, fun s hs => h2 s (by omega)⟩
      rw [pS_ge (by omega) hc hn] at h1
      rw [← h1]; congr 2; omega
    · exact ⟨t, h, h1, h2⟩
  · rintro ⟨t, ht, h1, h2⟩
    exact ⟨t, by omega, h1, h2⟩
theorem uA_per {n c : Nat} (A B : Nat → Bool) (hc : 0 < c) (hn : c ≤ n) (k : Nat) : ∀ m, uA n c A B k (pS n c m) = uA n c A B k m := by
  have hs : ∀ k m, n ≤ m → uA n c A B k (m - c) = uA n c A B k m := by
    intro k
    induction k with
    | zero => intro m h1; show B _ = B _; rw [pS_ge h1 hc hn]
    | succ k ih =>
      intro m h1
      rw [uA, uA, pS_ge h1 hc hn, ← ih (m + 1) (by omega), show m + 1 - c = m - c + 1 by omega]
  intro m
  induction m using Nat.strongRecOn with
  | ind m ih =>
    rcases Nat.lt_or_ge m n with h | h
    · rw [pS_lt h]
    · rw [pS_ge h hc hn, ih _ (by omega), hs k m h]
theorem uA_fix {n c : Nat} (A B : Nat → Bool) (hc : 0 < c) (hn : c ≤ n) (i : Nat) (hi : i < n) : uA n c A B n i = (B i || (A i && uA n c A B n (behS n (n - c) i))) := by
  have h := behS_pS hc hn i
  rw [pS_lt hi] at h
  rw [← uA_more A B hc hn n i (Nat.le_refl _), uA, pS_lt hi, h, uA_per A B hc hn]
theorem uA_least {n c : Nat} (A B : Nat → Bool) (hc : 0 < c) (hn : c ≤ n) (r : Nat → Bool) (hr : ∀ j, j < n → r j = (B j || (A j && r (behS n (n - c) j)))) : ∀ k m, uA n c A B k m = true → r (pS n c m) = true := by
  intro k
  induction k with
  | zero =>
    intro m h
    rw [hr _ (pS_in hc hn m), show B (pS n c m) = true from h, Bool.true_or]
  | succ k ih =>
    intro m h
    rw [uA, Bool.or_eq_true, Bool.and_eq_true] at h
    rw [hr _ (pS_in hc hn m), behS_pS hc hn]
    rcases h with h | ⟨h, h1⟩
    · rw [h, Bool.true_or]
    · rw [h, ih _ h1, Bool.and_true, Bool.or_true]
structure LawOK (n b : Nat) (β : Bool) (law : Nat → Bool → Bool) (R : List Bool) : Prop where
  len : R.length = n
  beh : ∀ j, j < n → behS n b j < n
  mono : ∀ j, j < n → law j β ≠ β → law j (!β) ≠ β
  fix : ∀ j, j < n → law j (R.getD (behS n b j) false) = R.getD j false
  least : ∀ r : List Bool, r.length = n → (∀ j, j < n → law j (r.getD (behS n b j) false) = r.getD j false) → ∀ j, j < n → R.getD j false ≠ β → r.getD j false ≠ β
structure Good (n b : Nat) (β : Bool) (law : Nat → Bool → Bool) (R r : List Bool) : Prop where
  len : r.length = n
  low : ∀ j, j < n → r.getD j false ≠ β → R.getD j false ≠ β
  up : ∀ j, j < n → r.getD j false ≠ β → law j (r.getD (behS n b j) false) ≠ β
theorem getD_set (l : List Bool) (i j : Nat) (v : Bool) (hi : i < l.length) : (l.set i v).getD j false = if j = i then v else l.getD j false := by
  rw [List.getD_eq_getElem?_getD, List.getD_eq_getElem?_getD, List.getElem?_set]
  by_cases h : i = j
  · subst h; simp [hi]
  · rw [if_neg h, if_neg (by omega)]
theorem ne_other {a b : Bool} (h : a ≠ b) : a = !b := by cases a <;> cases b <;> simp_all
section
variable {n b : Nat} {β : Bool} {law : Nat → Bool → Bool} {R : List Bool} (h : LawOK n b β law R)
include h
theorem good_start : Good n b β law R (List.replicate n β) := by
  have e : ∀ j, j < n → (List.replicate n β).getD j false = β := by
    intro j hj
    rw [List.getD_eq_getElem?_getD, List.getElem?_replicate, if_pos hj]; rfl
  exact ⟨by simp, fun j hj hc => absurd (e j hj) hc, fun j hj hc => absurd (e j hj) hc⟩
theorem law_up {j : Nat} (hj : j < n) {x y : Bool} (hx : law j x ≠ β) (hy : y = x ∨ y ≠ β) : law j y ≠ β := by
  rcases hy with rfl | hy
  · exact hx
  · rw [ne_other hy]
    by_cases e : x = β
    · subst e; exact h.mono j hj hx
    · rw [ne_other e] at hx; exact hx
theorem good_step {r : List Bool} (g : Good n b β law R r) {i : Nat} (hi : i < n) (hv : law i (r.getD (behS n b i) false) ≠ r.getD i false) : r.getD i false = β ∧ law i (r.getD (behS n b i) false) = (!β) ∧ Good n b β law R (r.set i (law i (r.getD (behS n b i) false))) := by
  have hb : r.getD i false = β := by
    by_cases e : r.getD i false = β
    · exact e
    · exact absurd ((ne_other (g.up i hi e)).trans (ne_other e).symm) hv
  have hl : law i (r.getD (behS n b i) false) = !β := ne_other (by rw [hb] at hv; exact hv)
  have hil : i < r.length := by rw [g.len]; exact hi
  refine ⟨hb, hl, ?_⟩
  rw [hl]
  have hmon : ∀ j, (r.set i (!β)).getD j false = r.getD j false ∨ (r.set i (!β)).getD j false ≠ β := by
    intro j
    rw [getD_set _ _ _ _ hil]
    by_cases e : j = i
    · rw [if_pos e]; right; cases β <;> simp
    · rw [if_neg e]; exact .inl rfl
  have hlaw : law i (r.getD (behS n b i) false) ≠ β := by rw [hl]; cases β <;> simp
  refine ⟨by rw [List.length_set]; exact g.len, fun j hj hc => ?_, fun j hj hc => ?_⟩
  · rw [getD_set _ _ _ _ hil] at hc
    by_cases e : j = i
    · subst e
      have hf := h.fix j hj
      rw [← hf]
      refine law_up h hj hlaw ?_
      by_cases e2 : r.getD (behS n b j) false = β
      · by_cases e3 : R.getD (behS n b j) false = β
        · exact .inl (e3.trans e2.symm)
        · exact .inr e3
      · exact .inr (g.low _ (h.beh j hj) e2)
    · rw [if_neg e] at hc; exact g.low j hj hc
  · rw [getD_set _ _ _ _ hil] at hc
    by_cases e : j = i
    · subst e; exact law_up h hj hlaw (hmon _)
    · rw [if_neg e] at hc; exact law_up h hj (g.up j hj hc) (hmon _)
theorem good_done {r : List Bool} (g : Good n b β law R r) (hf : ∀ j, j < n → law j (r.getD (behS n b j) false) = r.getD j false) : r = R := by
  refine List.ext_getElem (by rw [g.len, h.len]) fun j h1 h2 => ?_
  have hj : j < n := by rw [← g.len]; exact h1
  have e1 : r.getD j false = r[j] := by simp [h1]
  have e2 : R.getD j false = R[j] := by simp [h2]
  rw [← e1, ← e2]
  by_cases e : r.getD j false = β
  · by_cases e3 : R.getD j false = β
    · rw [e, e3]
    · exact absurd e (h.least r g.len hf j hj e3)
  · rw [ne_other e, ne_other (g.low j hj e)]
end
def cnt (β : Bool) (r : List Bool) : Nat := r.countP (fun x => x == β)
theorem cnt_set (β : Bool) : ∀ (r : List Bool) (i : Nat), i < r.length → r.getD i false = β → cnt β (r.set i (!β)) + 1 = cnt β r
  | [], i, h, _ => by simp at h
  | x :: r, 0, _, h => by
    have : x = β := by simpa using h
    subst this
    simp [cnt]
  | x :: r, i + 1, hi, h => by
    have ih := cnt_set β r i (by simpa using hi) (by simpa using h)
    unfold cnt at ih ⊢
    rw [List.set_cons_succ, List.countP_cons, List.countP_cons]
    omega
def uRow (n c : Nat) (β : Bool) (A B : Nat → Bool) : List Bool := (List.range n).map fun i => β ^^ uA n c A B n i
theorem uRow_get (n c : Nat) (β : Bool) (A B : Nat → Bool) (i : Nat) (hi : i < n) : (uRow n c β A B).getD i false = (β ^^ uA n c A B n i) := by
  simp [uRow, List.getD_eq_getElem?_getD, hi]
theorem uRow_ok {n c : Nat} (β : Bool) (A B : Nat → Bool) (hc : 0 < c) (hn : c ≤ n) (law : Nat → Bool → Bool) (hl : ∀ i, i < n → ∀ x, law i x = (β ^^ (B i || (A i && (β ^^ x))))) : LawOK n (n - c) β law (uRow n c β A B) := by
  have hb : ∀ j, j < n → behS n (n - c) j < n := by
    intro j hj
    unfold behS
    split <;> omega
  refine ⟨by simp [uRow], hb, fun j hj => ?_, fun j hj => ?_, fun r hr hf j hj => ?_⟩
  · rw [hl j hj, hl j hj]
    cases β <;> cases A j <;> cases B j <;> simp
  · rw [hl j hj, uRow_get _ _ _ _ _ _ (hb j hj), uRow_get _ _ _ _ _ _ hj, uA_fix A B hc hn j hj]
    cases β <;> simp
  · rw [uRow_get _ _ _ _ _ _ hj]
    have := uA_least A B hc hn (fun j => β ^^ r.getD j false) (fun j hj => by
      have := hf j hj
      rw [hl j hj] at this
      show (β ^^ r.getD j false) = _
      rw [← this]
      cases β <;> simp) n j
    rw [pS_lt hj] at this
    cases β <;> cases h : uA n c A B n j <;> simp_all
end Go.Proofs.YthffpjkkmkjplaaDoor.Pure
-- Cut by a program of this session (wip/prune.py) from a longer text: declarations that the law does not need are left out.
namespace Go.Proofs.YthffpjkkmkjplaaDoor.Pure
open Go.RowKit Go.Proofs.YthffpjkkmkjplaaDoor Go.Proofs.YthffpjkkmkjplaaDoor.Q Go.Proofs.YthffpjkkmkjplaaDoor.Base Go.Proofs.YthffpjkkmkjplaaDoorW.PrintWords Go.Proofs.YthffpjkkmkjplaaDoorW.PrintLast Go.Proofs.YthffpjkkmkjplaaDoorW.PrintMore
set_option linter.unusedVariables false
set_option linter.unusedSimpArgs false
def oneS (n c : Nat) (L : List (List Bool)) (o : POp) (a b : List Bool) (i : Nat) : Bool :=
  if o.f0 = 13 then (L.getD i []).getD o.f1.toNat false
  else if o.f0 = 11 then true
  else if o.f0 = 10 then !(a.getD i false)
  else if o.f0 = 8 then a.getD i false && b.getD i false
  else if o.f0 = 9 then a.getD i false || b.getD i false
  else if o.f0 = 14 then a.getD (behS n (n - c) i) false
  else false
def rowS (n c : Nat) (L : List (List Bool)) (o : POp) (a b : List Bool) : List Bool :=
  if o.f0 = 17 then uRow n c false (fun _ => true) (fun i => a.getD i false)
  else if o.f0 = 18 then uRow n c true (fun _ => true) (fun i => !(a.getD i false))
  else if o.f0 = 15 then uRow n c false (fun i => a.getD i false) (fun i => b.getD i false)
  else if o.f0 = 16 then uRow n c true (fun i => !(a.getD i false)) (fun i => !(b.getD i false))
  else (List.range n).map (oneS n c L o a b)
theorem rowS_len (n c : Nat) (L : List (List Bool)) (o : POp) (a b : List Bool) : (rowS n c L o a b).length = n := by
  unfold rowS uRow
  repeat' split
  all_goals simp
def rowsS (n c : Nat) (L : List (List Bool)) : List POp → List (List Bool)
  | [] => []
  | o :: l => rowS n c L o ((rowsS n c L l).getD 0 []) ((rowsS n c L l).getD (endAt l 0).toNat []) :: rowsS n c L l
theorem rowsS_len (n c : Nat) (L : List (List Bool)) : ∀ l : List POp, (rowsS n c L l).length = l.length
  | [] => rfl
  | o :: l => by rw [rowsS, List.length_cons, rowsS_len n c L l, List.length_cons]
theorem rowsS_drop (n c : Nat) (L : List (List Bool)) : ∀ (l : List POp) (i : Nat), (rowsS n c L l).drop i = rowsS n c L (l.drop i)
  | l, 0 => by simp
  | [], i + 1 => by simp [rowsS]
  | o :: l, i + 1 => by rw [rowsS, List.drop_succ_cons, List.drop_succ_cons, rowsS_drop n c L l i]
theorem rowsS_at (n c : Nat) (L : List (List Bool)) (l : List POp) (i : Nat) (hi : i < l.length) :
    (rowsS n c L l).getD i [] = rowS n c L l[i] ((rowsS n c L l).getD (i + 1) []) ((rowsS n c L l).getD (i + 1 + (endAt (l.drop (i + 1)) 0).toNat) []) := by
  have h1 := rowsS_drop n c L l i
  have h2 := rowsS_drop n c L l (i + 1)
  have g : ∀ m, (rowsS n c L l).getD (i + 1 + m) [] = (rowsS n c L (l.drop (i + 1))).getD m [] := by
    intro m
    rw [← h2, List.getD_eq_getElem?_getD, List.getD_eq_getElem?_getD, List.getElem?_drop]
  have g0 := g 0
  rw [Nat.add_zero] at g0
  have h3 : (rowsS n c L l).getD i [] = ((rowsS n c L l).drop i).getD 0 [] := by
    rw [List.getD_eq_getElem?_getD, List.getD_eq_getElem?_getD, List.getElem?_drop, Nat.add_zero]
  rw [h3, h1, List.drop_eq_getElem_cons hi, rowsS, g0, g]
  rfl
theorem rowsS_in (n c : Nat) (L : List (List Bool)) (l : List POp) (i : Nat) (hi : i < l.length) : ((rowsS n c L l).getD i []).length = n := by
  rw [rowsS_at n c L l i hi]
  exact rowS_len _ _ _ _ _ _
theorem law17 {n c : Nat} (hc : 0 < c) (hn : c ≤ n) (L : List (List Bool)) (o : POp) (a b : List Bool) (h : o.f0 = 17) : LawOK n (n - c) false (fun i x => a.getD i false || x) (rowS n c L o a b) := by
  unfold rowS
  rw [if_pos h]
  exact uRow_ok false _ _ hc hn _ (fun i hi x => by simp)
theorem law18 {n c : Nat} (hc : 0 < c) (hn : c ≤ n) (L : List (List Bool)) (o : POp) (a b : List Bool) (h : o.f0 = 18) : LawOK n (n - c) true (fun i x => a.getD i false && x) (rowS n c L o a b) := by
  unfold rowS
  rw [if_neg (by omega), if_pos h]
  exact uRow_ok true _ _ hc hn _ (fun i hi x => by cases a.getD i false <;> cases x <;> rfl)
theorem law15 {n c : Nat} (hc : 0 < c) (hn : c ≤ n) (L : List (List Bool)) (o : POp) (a b : List Bool) (h : o.f0 = 15) : LawOK n (n - c) false (fun i x => b.getD i false || (a.getD i false && x)) (rowS n c L o a b) := by
  unfold rowS
  rw [if_neg (by omega), if_neg (by omega), if_pos h]
  exact uRow_ok false _ _ hc hn _ (fun i hi x => by simp)
theorem law16 {n c : Nat} (hc : 0 < c) (hn : c ≤ n) (L : List (List Bool)) (o : POp) (a b : List Bool) (h : o.f0 = 16) : LawOK n (n - c) true (fun i x => b.getD i false && (a.getD i false || x)) (rowS n c L o a b) := by
  unfold rowS
  rw [if_neg (by omega), if_neg (by omega), if_neg (by omega), if_pos h]
  exact uRow_ok true _ _ hc hn _ (fun i hi x => by cases a.getD i false <;> cases b.getD i false <;> cases x <;> rfl)
theorem kind_of {l : List POp} {n : Int} (h1 : one l) (i : Nat) (hi : i < l.length) (hf : fit n l[i] = 0) :
    (l[i].f0 = 13 ∧ 0 ≤ l[i].f1 ∧ l[i].f1 < n) ∨ l[i].f0 = 11 ∨ l[i].f0 = 12 ∨ (l[i].f0 = 10 ∧ arIs l[i] 1) ∨ (l[i].f0 = 8 ∧ arIs l[i] 2) ∨ (l[i].f0 = 9 ∧ arIs l[i] 2) ∨ (14 ≤ l[i].f0 ∧ l[i].f0 ≤ 18) := by
  obtain ⟨rr, hrr⟩ := one_places l h1 i hi
  rw [List.drop_eq_getElem_cons hi, scan_cons] at hrr
  have hp : ¬ (l[i].f0 < 1 ∨ 18 < l[i].f0) := by
    intro hc
    have e : (partsS l[i].f0).2 = 13 := by unfold partsS; rw [if_pos hc]
    rw [e] at hrr
    simp at hrr
  unfold fit at hf
  have h8 : ¬ l[i].f0 < 8 := by
    intro hc
    rw [if_pos hc] at hf
    cases hf
  rw [if_neg h8] at hf
  by_cases k13 : l[i].f0 = 13
  · rw [if_pos k13] at hf
    split at hf
    · cases hf
    · exact .inl ⟨k13, by omega, by omega⟩
  have : l[i].f0 = 8 ∨ l[i].f0 = 9 ∨ l[i].f0 = 10 ∨ l[i].f0 = 11 ∨ l[i].f0 = 12 ∨ (14 ≤ l[i].f0 ∧ l[i].f0 ≤ 18) := by omega
  rcases this with e | e | e | e | e | e
  · exact .inr (.inr (.inr (.inr (.inl ⟨e, by unfold arIs; rw [e]; decide⟩))))
  · exact .inr (.inr (.inr (.inr (.inr (.inl ⟨e, by unfold arIs; rw [e]; decide⟩)))))
  · exact .inr (.inr (.inr (.inl ⟨e, by unfold arIs; rw [e]; decide⟩)))
  · exact .inr (.inl e)
  · exact .inr (.inr (.inl e))
  · exact .inr (.inr (.inr (.inr (.inr (.inr e)))))
end Go.Proofs.YthffpjkkmkjplaaDoor.Pure
