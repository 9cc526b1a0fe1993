-- Cut by a program of this session (wip/prune.py) from a longer text: declarations that the law does not need are left out.
import Derived.Test.YtkpddelnkjjflaaDoorKStepLettersMx1
import Derived.Test.YtkpddelnkjjflaaDoorKStepLettersMx4
import Derived.Test.YtkpddelnkjjflaaDoorKStepLettersMTerm
import Derived.Test.YtkpddelnkjjflaaDoorKStepLettersMParts
namespace Go.Proofs.YtkpddelnkjjflaaDoor.Pure
open Go.RowKit Go.Proofs.YtkpddelnkjjflaaDoor Go.Proofs.YtkpddelnkjjflaaDoor.M Go.Proofs.YtkpddelnkjjflaaDoor.Base Go.Proofs.YtkpddelnkjjflaaDoorW.PrintWords Go.Proofs.YtkpddelnkjjflaaDoorW.PrintLast Go.Proofs.YtkpddelnkjjflaaDoorW.PrintMore
set_option linter.unusedVariables false
theorem ops_eq (l : List POp) (h : l.length * 16 ≤ 140737488351232) : foretelllaw_ops.f l = some l := by
 unfold foretelllaw_ops.f
 rw [if_pos (by simp; omega)]
 rfl
def endRes (l : List POp) (r : Except Int (List POp)) : Int × Int := match r with | .ok r => ((l.length : Int) - r.length, 0) | .error e => (0, e)
theorem endOf_loop (l : List POp) (hl : l.length ≤ 1000000) (d : Nat) : ∀ (i w : Nat), i + d = l.length → w ≤ 2 * i + 1 → 0 < w → Ev (fun k => foretellref_endOf.l0 k l (w : Int) i) (endRes l (scan (l.drop i) w)) := by
 induction d with
 | zero =>
  intro i w hi hw hw0
  rw [List.drop_of_length_le (by omega)]
  obtain ⟨w, rfl⟩ : ∃ m, w = m + 1 := ⟨w - 1, by omega⟩
  exact ev_now (fun k => by simp (disch := omega) only [foretellref_endOf.l0, if_neg, scan_nil, endRes])
 | succ d ih =>
  intro i w hi hw hw0
  have hlt : i < l.length := by omega
  have hg : rd_T94 l i = l[i] := getD_get _ _ _ hlt
  obtain ⟨w, rfl⟩ : ∃ m, w = m + 1 := ⟨w - 1, by omega⟩
  rw [List.drop_eq_getElem_cons hlt, scan_cons]
  obtain ⟨o, ho⟩ : ∃ o, o = l[i] := ⟨_, rfl⟩
  rw [← ho] at hg ⊢
  have hp := partsOf_ev o.f0
  obtain ⟨n, e, hpq⟩ : ∃ n e, partsS o.f0 = (n, e) := ⟨_, _, rfl⟩
  have hb := partsS_bd (a := o.f0)
  rw [hpq] at hb hp ⊢
  simp only at hb ⊢
  refine Ev.step (f := fun k => (foretellref_PartsOf.f k o.f0).bind fun bt109 => (if bt109.2 = 0 then (if (wrap64 ((wrap64 (((w + 1 : Nat) : Int) + bt109.1)) - 1)) = 0 then (some (wrap64 ((i : Int) + 1), 0)) else (foretellref_endOf.l0 k l (wrap64 ((wrap64 (((w + 1 : Nat) : Int) + bt109.1)) - 1)) (wrap64 ((i : Int) + 1)))) else (some (0, bt109.2)))) (fun k => by simp (disch := omega) only [foretellref_endOf.l0, if_pos, hg]) ?_
  refine ev_bind hp ?_
  by_cases c : e = 0
  ·obtain ⟨b0, b1⟩ := hb c
   simp only [if_pos c, wrap_id (show -9223372036854775808 ≤ ((w + 1 : Nat) : Int) + n by omega) (by omega), wrap_id (show -9223372036854775808 ≤ ((w + 1 : Nat) : Int) + n - 1 by omega) (by omega), wrap_id (show -9223372036854775808 ≤ (i : Int) + 1 by omega) (by omega)]
   by_cases c2 : ((w + 1 : Nat) : Int) + n - 1 = 0
   ·simp only [if_pos c2]
    rw [show w + n.toNat = 0 by omega, scan_zero]
    refine ev_const (fun k => ?_)
    simp only [endRes, List.length_drop]
    congr 2
    omega
   ·simp only [if_neg c2]
    have e2 : ((w + 1 : Nat) : Int) + n - 1 = ((w + n.toNat : Nat) : Int) := by omega
    rw [e2]
    exact ih (i + 1) (w + n.toNat) (by omega) (by omega) (by omega)
  ·simp only [if_neg c]
   exact Ev.now _
theorem endOf_ev (l : List POp) (hl : l.length ≤ 1000000) (i : Nat) (hi : i ≤ l.length) : Ev (fun k => foretellref_endOf.f k l (i : Int)) (endRes l (scan (l.drop i) 1)) := endOf_loop l hl (l.length - i) i 1 (by omega) (by omega) (by omega)
theorem endRes_fst (l : List POp) (i : Nat) : (endRes l (scan (l.drop i) 1)).1 = endAt l i := by
 unfold endRes endAt
 split <;> simp_all
theorem endsOf_loop (l : List POp) (hl : l.length ≤ 1000000) (d : Nat) : ∀ (i : Nat), i + d = l.length → Ev (fun k => foretellref_EndsOf.l0 k l ((List.range i).map (endAt l)) i) ((List.range l.length).map (endAt l), 0) := by
 induction d with
 | zero =>
  intro i hi
  obtain rfl : i = l.length := by omega
  exact ev_now (fun k => by simp (disch := omega) only [foretellref_EndsOf.l0, if_neg])
 | succ d ih =>
  intro i hi
  have hq : ((List.range i).map (endAt l)).length < 17592186044416 := by simp; omega
  refine Ev.step (f := fun k => (foretellref_endOf.f k l (i : Int)).bind fun bt113 => foretellref_EndsOf.l0 k l ((List.range i).map (endAt l) ++ [bt113.1]) ((i + 1 : Nat) : Int)) (fun k => ?_) (ev_bind (endOf_ev l hl i (by omega)) ?_)
  ·simp (disch := omega) only [foretellref_EndsOf.l0, if_pos, wrap_id]
   rfl
  ·rw [endRes_fst]
   have : (List.range i).map (endAt l) ++ [endAt l i] = (List.range (i + 1)).map (endAt l) := by rw [List.range_succ, List.map_append]; rfl
   rw [this]
   exact ih (i + 1) (by omega)
theorem endsOf_ev (l : List POp) : Ev (fun k => foretellref_EndsOf.f k l) (endsS l) := by
 unfold foretellref_EndsOf.f endsS
 by_cases c : l.length > 60
 ·have c' : (l.length : Int) > 60 := by omega
  simp only [if_pos c, if_pos c']
  exact Ev.now _
 ·have c' : ¬ (l.length : Int) > 60 := by omega
  simp only [if_neg c, if_neg c']
  have h := endOf_ev l (by omega) 0 (by omega)
  rw [List.drop_zero] at h
  cases hs : scan l 1 with
  | error e =>
   have he : e ≠ 0 := by rcases scan_err _ _ _ hs with h | h <;> omega
   have h : Ev (fun k => foretellref_endOf.f k l ((0 : Nat) : Int)) (0, e) := by rw [hs] at h; exact h
   refine ev_bind h ?_
   simp only [if_neg he]
   exact Ev.now _
  | ok r =>
   have h : Ev (fun k => foretellref_endOf.f k l ((0 : Nat) : Int)) ((l.length : Int) - (r.length : Int), 0) := by rw [hs] at h; exact h
   refine ev_bind h ?_
   simp only [if_true]
   by_cases hr : r = []
   ·subst hr
    have hn : ¬ ((l.length : Int) - (([] : List POp).length : Int) < (l.length : Int)) := by simp
    refine Ev.congr (f := fun k => foretellref_EndsOf.l0 k l ((List.range 0).map (endAt l)) ((0 : Nat) : Int)) (fun k => by rw [if_neg hn]; rfl) ?_
    exact endsOf_loop l (by omega) l.length 0 (by omega)
   ·have hn : (l.length : Int) - (r.length : Int) < (l.length : Int) := by
     have := List.length_pos_iff.2 hr
     omega
    exact ev_const (fun k => by rw [if_pos hn, if_neg hr])
theorem endsS_ok {l : List POp} (h : (endsS l).2 = 0) : one l ∧ l.length ≤ 60 ∧ endsS l = ((List.range l.length).map (endAt l), 0) := by
 unfold endsS at h ⊢
 by_cases c : l.length > 60
 ·rw [if_pos c] at h; cases h
 rw [if_neg c] at h ⊢
 cases hs : scan l 1 with
 | error e =>
  rw [hs] at h
  rcases scan_err _ _ _ hs with rfl | rfl <;> cases h
 | ok r =>
  rw [hs] at h
  simp only at h ⊢
  by_cases hr : r = []
  ·subst hr
   exact ⟨hs, by omega, by simp⟩
  ·rw [if_neg hr] at h; cases h
theorem endsS_of_one {l : List POp} (h : one l) (hl : l.length ≤ 60) : endsS l = ((List.range l.length).map (endAt l), 0) := by
 unfold endsS
 rw [if_neg (by omega), h]
 rfl
end Go.Proofs.YtkpddelnkjjflaaDoor.Pure
