import Derived.Test.YtbekikafhpdehaaDoorKVerdictRunsG34
import Derived.Test.YtbekikafhpdehaaDoorKVerdictRunsG43
import Derived.Test.YtbekikafhpdehaaDoorKVerdictRunsG50
import Derived.Test.YtbekikafhpdehaaDoorKVerdictRunsG8
import Derived.Test.YtbekikafhpdehaaDoorKVerdictRunsG44
import Derived.Test.YtbekikafhpdehaaDoorKVerdictRunsG45
import Derived.Test.YtbekikafhpdehaaDoorKVerdictRunsG46
-- Cut by a program of this session (wip/prune.py) from a longer text: declarations that the law does not need are left out.
namespace Go.Proofs.YtbekikafhpdehaaDoor.Pure
open Go.RowKit Go.Proofs.YtbekikafhpdehaaDoor Go.Proofs.YtbekikafhpdehaaDoor.V Go.Proofs.YtbekikafhpdehaaDoor.Base Go.Proofs.YtbekikafhpdehaaDoorW.PrintWords Go.Proofs.YtbekikafhpdehaaDoorW.PrintLast Go.Proofs.YtbekikafhpdehaaDoorW.PrintMore
set_option linter.unusedVariables false
set_option linter.unusedSimpArgs false
theorem index_l0 (l : List Int) (x : Int) (hl : l.length ≤ 4096) (d : Nat) : ∀ i : Nat, i + d = l.length → ∃ r, Ev (fun k => slices_Index_int_int.l0 k l x (l.length : Int) (i : Int)) r ∧ decide (r ≥ 0) = (l.drop i).any (· == x) := by
 induction d with
 | zero =>
  intro i hi
  have c1 : ¬ (i : Int) < (l.length : Int) := by omega
  refine ⟨-1, ev_succ ?_, ?_⟩
  ·simp only [slices_Index_int_int.l0, ↓reduceIte, c1]
   exact Ev.now _
  ·rw [List.drop_of_length_le (by omega)]; rfl
 | succ d ih =>
  intro i hi
  have hil : i < l.length := by omega
  have c1 : (i : Int) < (l.length : Int) := by omega
  have c2 : (0 : Int) ≤ (i : Int) := Int.natCast_nonneg _
  have w1 : wrap64 ((i : Int) + 1) = ((i + 1 : Nat) : Int) := by rw [wrap_id (by omega) (by omega)]; rfl
  have hg : rd l (i : Int) = l[i] := rd_get l i hil
  rw [List.drop_eq_getElem_cons hil, List.any_cons]
  by_cases e : x = l[i]
  ·refine ⟨(i : Int), ev_succ ?_, ?_⟩
   ·simp only [slices_Index_int_int.l0, ↓reduceIte, c1, c2, hg, ← e]
    exact Ev.now _
   ·have : (l[i] == x) = true := beq_iff_eq.2 e.symm
    rw [this, Bool.true_or]
    exact decide_eq_true c2
  ·obtain ⟨r, h1, h2⟩ := ih (i + 1) (by omega)
   refine ⟨r, ev_succ ?_, ?_⟩
   ·simp only [slices_Index_int_int.l0, ↓reduceIte, c1, c2, hg, e, w1]
    exact h1
   ·have : (l[i] == x) = false := beq_eq_false_iff_ne.2 fun h => e h.symm
    rw [this, Bool.false_or, h2]
theorem contains_ev (l : List Int) (x : Int) (hl : l.length ≤ 4096) : Ev (fun k => slices_Contains_int_int.f k l x) (l.any (· == x)) := by
 obtain ⟨r, h1, h2⟩ := index_l0 l x hl l.length 0 (by omega)
 rw [List.drop_zero] at h2
 unfold slices_Contains_int_int.f slices_Index_int_int.f
 refine ev_bind h1 ?_
 rw [h2]
 exact Ev.now _
def pathB (nx : Int → List Int) (n : Int) : List Int → Bool
 | a :: b :: r => if a < 0 ∨ a ≥ n then false else if (nx a).any (· == b) = true then pathB nx n (b :: r) else false
 | _ => true
theorem pathB_step (nx : Int → List Int) (n : Int) (l : List Int) (i : Nat) (h : i + 1 < l.length) : pathB nx n (l.drop i) = if l[i] < 0 ∨ l[i] ≥ n then false else if (nx l[i]).any (· == l[i + 1]) = true then pathB nx n (l.drop (i + 1)) else false := by
 rw [List.drop_eq_getElem_cons (by omega), List.drop_eq_getElem_cons h, pathB]
theorem pathB_end (nx : Int → List Int) (n : Int) (l : List Int) (i : Nat) (h : l.length ≤ i + 1) : pathB nx n (l.drop i) = true := by
 rcases Nat.lt_or_ge i l.length with c | c
 ·rw [List.drop_eq_getElem_cons c, List.drop_of_length_le h]; rfl
 ·rw [List.drop_of_length_le c]; rfl
theorem behindL_len4 {vs : List PVar} {rs : List PRule} (hm : modelS vs rs = 0) (c : Int) : (behindL vs rs c).length ≤ 4096 := by
 obtain ⟨ho, hp⟩ := vars_ok (modelS_vars hm)
 unfold behindL
 split
 ·simp
 ·have := upTo_len (prodV vs).toNat (codesS vs rs (valS vs c) rs)
  omega
theorem nextS_in {vs : List PVar} {rs : List PRule} (hm : modelS vs rs = 0) {c : Int} (h0 : 0 ≤ c) (h1 : c < prodV vs) : nextS vs rs c = (behindL vs rs c, 0) := by
 have : (valuesS vs rs c).2 = 0 := by unfold valuesS; rw [if_pos hm, if_neg (by omega)]
 unfold nextS
 rw [if_pos this]
section
variable (vs : List PVar) (rs : List PRule) (hm : modelS vs rs = 0)
include hm
theorem runs_l0 (stem loop : List Int) (a0 : Int) (r0 : List Int) (hl : loop = a0 :: r0) (all : List Int) (hn : all.length ≤ 17592186044416) (d : Nat) : ∀ i : Nat, i + d = all.length →
  Ev (fun k => verdict_Runs.l0 k (prodV vs) all all (all.length : Int) (i : Int) vs rs stem loop) (pathB (behindL vs rs) (prodV vs) ((all ++ [a0]).drop i), 0) := by
 have hlen : (all ++ [a0]).length = all.length + 1 := by simp
 induction d with
 | zero =>
  intro i hi
  have c1 : ¬ (i : Int) < (all.length : Int) := by omega
  rw [pathB_end _ _ _ _ (by omega)]
  refine ev_succ ?_
  simp only [verdict_Runs.l0, ↓reduceIte, c1]
  exact Ev.now _
 | succ d ih =>
  intro i hi
  have hil : i < all.length := by omega
  have c1 : (i : Int) < (all.length : Int) := by omega
  have c2 : (0 : Int) ≤ (i : Int) := Int.natCast_nonneg _
  have w1 : wrap64 ((i : Int) + 1) = ((i + 1 : Nat) : Int) := by rw [wrap_id (by omega) (by omega)]; rfl
  have hg : rd all (i : Int) = all[i] := rd_get all i hil
  have hll : (0 : Int) < (loop.length : Int) := by rw [hl, List.length_cons]; omega
  have hr0 : rd loop 0 = a0 := by rw [hl]; rfl
  have e1 : (all ++ [a0])[i] = all[i] := List.getElem_append_left hil
  have tail : ∀ (tq : Int), tq = (all ++ [a0])[i + 1]'(by omega) → 0 ≤ all[i] → all[i] < prodV vs → Ev (fun k => verdict_Runs.j3 k (prodV vs) all all[i] tq all (all.length : Int) (i : Int) vs rs stem loop) (if (behindL vs rs all[i]).any (· == (all ++ [a0])[i + 1]'(by omega)) = true then pathB (behindL vs rs) (prodV vs) ((all ++ [a0]).drop (i + 1)) else false, 0) := fun tq ht h0 h1 => by
   subst ht
   refine ev_succ ?_
   simp only [verdict_Runs.j3, w1]
   refine ev_bind (stepNext_ev vs rs all[i]) ?_
   rw [nextS_in hm h0 h1]
   refine ev_bind (contains_ev _ _ (behindL_len4 hm _)) ?_
   by_cases hb : (behindL vs rs all[i]).any (· == (all ++ [a0])[i + 1]'(by omega)) = true
   ·simp only [hb, ↓reduceIte]
    exact ih (i + 1) (by omega)
   ·simp only [hb, ↓reduceIte]
    exact Ev.now _
  rw [pathB_step _ _ _ _ (by omega), e1]
  refine ev_succ ?_
  simp only [verdict_Runs.l0, ↓reduceIte, c1, c2, hg]
  have ff : ((false : Bool) = true) = False := by simp
  by_cases b1 : all[i] < 0
  ·simp only [b1, true_or, ↓reduceIte]
   refine ev_succ ?_
   simp only [verdict_Runs.j2, ↓reduceIte]
   exact Ev.now _
  ·by_cases b2 : all[i] ≥ prodV vs
   ·have b3 : decide (all[i] ≥ prodV vs) = true := decide_eq_true b2
    simp only [b1, b2, b3, or_true, ↓reduceIte]
    refine ev_succ ?_
    simp only [verdict_Runs.j2, ↓reduceIte]
    exact Ev.now _
   ·have b3 : decide (all[i] ≥ prodV vs) = false := decide_eq_false b2
    simp only [b1, b2, b3, or_self, ↓reduceIte]
    refine ev_succ ?_
    by_cases b4 : i + 1 < all.length
    ·have c4 : ((i + 1 : Nat) : Int) < (all.length : Int) := by omega
     have c5 : (0 : Int) ≤ ((i + 1 : Nat) : Int) := Int.natCast_nonneg _
     have hg2 : rd all ((i + 1 : Nat) : Int) = all[i + 1] := rd_get all (i + 1) b4
     simp only [verdict_Runs.j2, ff, ↓reduceIte, hll, w1, c4, c5, hg2]
     exact tail all[i + 1] (List.getElem_append_left b4).symm (by omega) (by omega)
    ·have c4 : ¬ ((i + 1 : Nat) : Int) < (all.length : Int) := by omega
     simp only [verdict_Runs.j2, ff, ↓reduceIte, hll, w1, c4, hr0]
     refine tail a0 ?_ (by omega) (by omega)
     have e : i + 1 = all.length := by omega
     simp [e]
def runsB (vs : List PVar) (rs : List PRule) (stem loop : List Int) : Bool := match loop with
 | [] => false
 | a0 :: r0 => if rd (stem ++ loop) 0 = (firstS vs rs).1 then pathB (behindL vs rs) (prodV vs) (stem ++ loop ++ [a0]) else false
end
def runsS (vs : List PVar) (rs : List PRule) (stem loop : List Int) : Bool × Int := if modelS vs rs = 0 then (runsB vs rs stem loop, 0) else (false, modelS vs rs)
theorem runs_ev (vs : List PVar) (rs : List PRule) (hv : vs.length ≤ 3518437208883) (stem loop : List Int) (hs : stem.length ≤ 1048576) (hl : loop.length ≤ 1048576) : Ev (fun k => verdict_Runs.f k vs rs stem loop) (runsS vs rs stem loop) := by
 have ff : ((false : Bool) = true) = False := by simp
 unfold verdict_Runs.f runsS
 refine ev_bind (count_ev vs rs) ?_
 unfold countS
 by_cases hm : modelS vs rs = 0
 ·rw [if_pos hm, if_pos hm]
  simp only [↓reduceIte]
  refine ev_bind (first_ev vs rs hv) ?_
  refine ev_call (a := stem ++ loop) (by unfold slices_Concat_int_int.f; simp only; rw [if_pos (by omega)]) ?_
  cases loop with
  | nil =>
   simp only [List.length_nil, runsB]
   refine ev_succ ?_
   simp only [verdict_Runs.j0, ↓reduceIte]
   exact Ev.now _
  | cons a0 r0 =>
   have c1 : ¬ ((a0 :: r0).length : Int) = 0 := by rw [List.length_cons]; omega
   have c2 : (0 : Int) < ((stem ++ a0 :: r0).length : Int) := by rw [List.length_append, List.length_cons]; omega
   have c3 : (stem ++ a0 :: r0).length ≤ 17592186044416 := by rw [List.length_append]; omega
   simp only [c1, c2, ↓reduceIte, runsB]
   refine ev_succ ?_
   by_cases b : rd (stem ++ a0 :: r0) 0 = (firstS vs rs).1
   ·have b2 : (rd (stem ++ a0 :: r0) 0 != (firstS vs rs).1) = false := bne_eq_false_iff_eq.2 b
    rw [if_pos b]
    simp only [verdict_Runs.j0, b2, ff, ↓reduceIte]
    have h := runs_l0 vs rs hm stem (a0 :: r0) a0 r0 rfl (stem ++ a0 :: r0) c3 (stem ++ a0 :: r0).length 0 (by omega)
    rw [List.drop_zero] at h
    exact h
   ·have b2 : (rd (stem ++ a0 :: r0) 0 != (firstS vs rs).1) = true := bne_iff_ne.2 b
    rw [if_neg b]
    simp only [verdict_Runs.j0, b2, ↓reduceIte]
    exact Ev.now _
 ·rw [if_neg hm, if_neg hm]
  simp only [hm, ↓reduceIte]
  exact Ev.now _
section
variable (vs : List PVar) (rs : List PRule) (hm : modelS vs rs = 0)
theorem runsOn_l3 (L : List Int) (i : Nat) (hi : i + 1 < L.length) (hn : L.length ≤ 17592186044416) (nx : List Int) (hx : nx.length ≤ 4096) (R : Bool) (hR : Ev (fun k => foretellref_RunsOn.l2 k (prodV vs) L ((i + 1 : Nat) : Int) vs rs) (R, 0)) (d : Nat) : ∀ (j : Nat) (b : Bool), j + d = nx.length →
  Ev (fun k => foretellref_RunsOn.l3 k (prodV vs) L (i : Int) nx b (j : Int) vs rs) (if (b || (nx.drop j).any (· == L[i + 1])) = true then R else false, 0) := by
 have ff : ((false : Bool) = true) = False := by simp
 have w1 : wrap64 ((i : Int) + 1) = ((i + 1 : Nat) : Int) := by rw [wrap_id (by omega) (by omega)]; rfl
 have c4 : ((i + 1 : Nat) : Int) < (L.length : Int) := by omega
 have c5 : (0 : Int) ≤ ((i + 1 : Nat) : Int) := Int.natCast_nonneg _
 have hg2 : rd L ((i + 1 : Nat) : Int) = L[i + 1] := rd_get L (i + 1) hi
 induction d with
 | zero =>
  intro j b hj
  have c1 : ¬ (j : Int) < (nx.length : Int) := by omega
  rw [List.drop_of_length_le (by omega), List.any_nil, Bool.or_false]
  refine ev_succ ?_
  cases b with
  | true =>
   simp only [foretellref_RunsOn.l3, ↓reduceIte, c1, w1]
   exact hR
  | false =>
   simp only [foretellref_RunsOn.l3, ff, ↓reduceIte, c1]
   exact Ev.now _
 | succ d ih =>
  intro j b hj
  have hjl : j < nx.length := by omega
  have c1 : (j : Int) < (nx.length : Int) := by omega
  have c2 : (0 : Int) ≤ (j : Int) := Int.natCast_nonneg _
  have w2 : wrap64 ((j : Int) + 1) = ((j + 1 : Nat) : Int) := by rw [wrap_id (by omega) (by omega)]; rfl
  have hg : rd nx (j : Int) = nx[j] := rd_get nx j hjl
  rw [List.drop_eq_getElem_cons hjl, List.any_cons]
  refine ev_succ ?_
  cases b with
  | true =>
   simp only [foretellref_RunsOn.l3, ↓reduceIte, c1, w2]
   refine ev_eq (ih (j + 1) true (by omega)) ?_
   simp only [Bool.true_or]
  | false =>
   simp only [foretellref_RunsOn.l3, ff, ↓reduceIte, c1, c2, w1, w2, c4, c5, hg, hg2]
   refine ev_eq (ih (j + 1) (nx[j] == L[i + 1]) (by omega)) ?_
   simp only [Bool.false_or]
include hm
theorem runsOn_l2 (L : List Int) (hn : L.length ≤ 17592186044416) (d : Nat) : ∀ i : Nat, i + d = L.length → Ev (fun k => foretellref_RunsOn.l2 k (prodV vs) L (i : Int) vs rs) (pathB (behindL vs rs) (prodV vs) (L.drop i), 0) := by
 obtain ⟨ho, hp⟩ := vars_ok (modelS_vars hm)
 have hp1 := prodV_pos ho
 have ff : ((false : Bool) = true) = False := by simp
 induction d with
 | zero =>
  intro i hi
  have w1 : wrap64 ((i : Int) + 1) = ((i + 1 : Nat) : Int) := by rw [wrap_id (by omega) (by omega)]; rfl
  have c1 : ¬ ((i + 1 : Nat) : Int) < (L.length : Int) := by omega
  rw [pathB_end _ _ _ _ (by omega)]
  refine ev_succ ?_
  simp only [foretellref_RunsOn.l2, ↓reduceIte, w1, c1]
  exact Ev.now _
 | succ d ih =>
  intro i hi
  have w1 : wrap64 ((i : Int) + 1) = ((i + 1 : Nat) : Int) := by rw [wrap_id (by omega) (by omega)]; rfl
  by_cases h1 : i + 1 < L.length
  ·have c1 : ((i + 1 : Nat) : Int) < (L.length : Int) := by omega
   have c2 : (0 : Int) ≤ (i : Int) := Int.natCast_nonneg _
   have c3 : (i : Int) < (L.length : Int) := by omega
   have hg : rd L (i : Int) = L[i] := rd_get L i (by omega)
   have w2 : wrap64 (prodV vs - 1) = prodV vs - 1 := wrap_id (by omega) (by omega)
   rw [pathB_step _ _ _ _ h1]
   refine ev_succ ?_
   simp only [foretellref_RunsOn.l2, ↓reduceIte, w1, w2, c1, c2, c3, hg]
   refine ev_call (inE_eq _ _ _) ?_
   by_cases hb : L[i] < 0 ∨ L[i] ≥ prodV vs
   ·have h2 : decide (0 ≤ L[i] ∧ L[i] ≤ prodV vs - 1) = false := decide_eq_false (by omega)
    simp only [h2, hb, ff, ↓reduceIte]
    exact Ev.now _
   ·have h2 : decide (0 ≤ L[i] ∧ L[i] ≤ prodV vs - 1) = true := decide_eq_true (by omega)
    simp only [h2, hb, ↓reduceIte]
    refine ev_bind (nextOf_ev vs rs L[i]) ?_
    rw [nextS_in hm (by omega) (by omega)]
    have := runsOn_l3 vs rs L i h1 hn (behindL vs rs L[i]) (behindL_len4 hm _) _ (ih (i + 1) (by omega)) (behindL vs rs L[i]).length 0 false (by omega)
    simp only [List.drop_zero, Bool.false_or] at this
    exact this
  ·have c1 : ¬ ((i + 1 : Nat) : Int) < (L.length : Int) := by omega
   rw [pathB_end _ _ _ _ (by omega)]
   refine ev_succ ?_
   simp only [foretellref_RunsOn.l2, ↓reduceIte, w1, c1]
   exact Ev.now _
theorem runsOn_l1 (stem loop : List Int) (hs : stem.length ≤ 1048576) (hl : loop.length ≤ 1048576) (d : Nat) : ∀ j : Nat, j + d = loop.length → Ev (fun k => foretellref_RunsOn.l1 k (prodV vs) (firstS vs rs).1 (stem ++ loop.take j) (j : Int) vs rs stem loop) (runsB vs rs stem loop, 0) := by
 have ff : ((false : Bool) = true) = False := by simp
 induction d with
 | zero =>
  intro j hj
  rw [List.take_of_length_le (by omega)]
  have c1 : ¬ (j : Int) < (loop.length : Int) := by omega
  refine ev_succ ?_
  cases loop with
  | nil =>
   simp only [foretellref_RunsOn.l1, ↓reduceIte, c1, List.length_nil, runsB]
   refine ev_succ ?_
   simp only [foretellref_RunsOn.j2, ↓reduceIte]
   exact Ev.now _
  | cons a0 r0 =>
   have c3 : ¬ ((a0 :: r0).length : Int) = 0 := by rw [List.length_cons]; omega
   have c4 : (0 : Int) < ((stem ++ a0 :: r0).length : Int) := by rw [List.length_append, List.length_cons]; omega
   have c5 : (stem ++ a0 :: r0).length < 17592186044416 := by rw [List.length_append]; omega
   have c6 : (0 : Int) < ((a0 :: r0).length : Int) := by rw [List.length_cons]; omega
   have hr0 : rd (a0 :: r0) 0 = a0 := rfl
   simp only [foretellref_RunsOn.l1, ↓reduceIte, c1, c3, c4, runsB]
   refine ev_succ ?_
   by_cases b : rd (stem ++ a0 :: r0) 0 = (firstS vs rs).1
   ·have b2 : (rd (stem ++ a0 :: r0) 0 != (firstS vs rs).1) = false := bne_eq_false_iff_eq.2 b
    rw [if_pos b]
    simp only [foretellref_RunsOn.j2, b2, ff, c5, c6, hr0, ↓reduceIte]
    have h := runsOn_l2 vs rs hm (stem ++ a0 :: r0 ++ [a0]) (by rw [List.length_append, List.length_append]; simp only [List.length_singleton]; omega) (stem ++ a0 :: r0 ++ [a0]).length 0 (by omega)
    rw [List.drop_zero] at h
    exact h
   ·have b2 : (rd (stem ++ a0 :: r0) 0 != (firstS vs rs).1) = true := bne_iff_ne.2 b
    rw [if_neg b]
    simp only [foretellref_RunsOn.j2, b2, ↓reduceIte]
    exact Ev.now _
 | succ d ih =>
  intro j hj
  have hjl : j < loop.length := by omega
  have c1 : (j : Int) < (loop.length : Int) := by omega
  have c2 : (0 : Int) ≤ (j : Int) := Int.natCast_nonneg _
  have c3 : (stem ++ loop.take j).length < 17592186044416 := by rw [List.length_append, List.length_take]; omega
  have w1 : wrap64 ((j : Int) + 1) = ((j + 1 : Nat) : Int) := by rw [wrap_id (by omega) (by omega)]; rfl
  have hg : rd loop (j : Int) = loop[j] := rd_get loop j hjl
  refine ev_succ ?_
  simp only [foretellref_RunsOn.l1, ↓reduceIte, c1, c2, c3, w1, hg]
  have h := ih (j + 1) (by omega)
  rw [List.take_succ_eq_append_getElem hjl, ← List.append_assoc] at h
  exact h
theorem runsOn_l0 (stem loop : List Int) (hs : stem.length ≤ 1048576) (hl : loop.length ≤ 1048576) (d : Nat) : ∀ j : Nat, j + d = stem.length → Ev (fun k => foretellref_RunsOn.l0 k (prodV vs) (firstS vs rs).1 (stem.take j) (j : Int) vs rs stem loop) (runsB vs rs stem loop, 0) := by
 induction d with
 | zero =>
  intro j hj
  rw [List.take_of_length_le (by omega)]
  have c1 : ¬ (j : Int) < (stem.length : Int) := by omega
  refine ev_succ ?_
  simp only [foretellref_RunsOn.l0, ↓reduceIte, c1]
  have h := runsOn_l1 vs rs hm stem loop hs hl loop.length 0 (by omega)
  rw [List.take_zero, List.append_nil] at h
  exact h
 | succ d ih =>
  intro j hj
  have hjl : j < stem.length := by omega
  have c1 : (j : Int) < (stem.length : Int) := by omega
  have c2 : (0 : Int) ≤ (j : Int) := Int.natCast_nonneg _
  have c3 : (stem.take j).length < 17592186044416 := by rw [List.length_take]; omega
  have w1 : wrap64 ((j : Int) + 1) = ((j + 1 : Nat) : Int) := by rw [wrap_id (by omega) (by omega)]; rfl
  have hg : rd stem (j : Int) = stem[j] := rd_get stem j hjl
  refine ev_succ ?_
  simp only [foretellref_RunsOn.l0, ↓reduceIte, c1, c2, c3, w1, hg]
  have h := ih (j + 1) (by omega)
  rw [List.take_succ_eq_append_getElem hjl] at h
  exact h
end
theorem runsOn_ev (vs : List PVar) (rs : List PRule) (hv : vs.length ≤ 3518437208883) (stem loop : List Int) (hs : stem.length ≤ 1048576) (hl : loop.length ≤ 1048576) : Ev (fun k => foretellref_RunsOn.f k vs rs stem loop) (runsS vs rs stem loop) := by
 unfold foretellref_RunsOn.f runsS
 refine ev_bind (stateCount_ev vs rs) ?_
 unfold countS
 by_cases hm : modelS vs rs = 0
 ·rw [if_pos hm, if_pos hm]
  simp only [↓reduceIte]
  refine ev_bind (firstCode_ev vs rs hv) ?_
  exact runsOn_l0 vs rs hm stem loop hs hl stem.length 0 (by omega)
 ·rw [if_neg hm, if_neg hm]
  simp only [hm, ↓reduceIte]
  exact Ev.now _
end Go.Proofs.YtbekikafhpdehaaDoor.Pure
namespace Go.Proofs.YtbekikafhpdehaaDoor.Pure
open Go.RowKit Go.Proofs.YtbekikafhpdehaaDoor Go.Proofs.YtbekikafhpdehaaDoor.V Go.Proofs.YtbekikafhpdehaaDoor.Base Go.Proofs.YtbekikafhpdehaaDoorW.PrintWords Go.Proofs.YtbekikafhpdehaaDoorW.PrintLast Go.Proofs.YtbekikafhpdehaaDoorW.PrintMore
set_option linter.unusedVariables false
set_option linter.unusedSimpArgs false
theorem ints_eq (l : List Int) (h : l.length * 8 ≤ 140737488351232) : foretelllaw_ints.f l = some l := by
 unfold foretelllaw_ints.f
 rw [if_pos (by simp; omega), List.nil_append]
end Go.Proofs.YtbekikafhpdehaaDoor.Pure
namespace Go.Proofs.YtbekikafhpdehaaDoor.Pure
open Go.RowKit Go.Proofs.YtbekikafhpdehaaDoor Go.Proofs.YtbekikafhpdehaaDoor.V Go.Proofs.YtbekikafhpdehaaDoor.Base Go.Proofs.YtbekikafhpdehaaDoorW.PrintWords Go.Proofs.YtbekikafhpdehaaDoorW.PrintLast Go.Proofs.YtbekikafhpdehaaDoorW.PrintMore
set_option linter.unusedVariables false
theorem VerdictRuns (x0 : S25) (x1 : S40) (good0 : G25 x0) (good1 : G40 x1) (hs : x1.f0.length ≤ 1048576) (hl : x1.f1.length ≤ 1048576) : ∃ k, foretelllaw_VerdictRuns.f k x0.f0 x0.f1 x1.f0 x1.f1 = some true := by
 refine Ev.rounds (g := fun k => foretelllaw_VerdictRuns.f k x0.f0 x0.f1 x1.f0 x1.f1) ?_
 unfold foretelllaw_VerdictRuns.f
 have hv : x0.f0.length ≤ 3518437208883 := by have := good0.1.1; omega
 refine ev_bind (models_ev x0 good0) (ev_call (ints_eq x1.f0 (by omega)) (ev_call (ints_eq x1.f1 (by omega)) (ev_bind (runs_ev x0.f0 x0.f1 hv x1.f0 x1.f1 hs hl) (ev_bind (runsOn_ev x0.f0 x0.f1 hv x1.f0 x1.f1 hs hl) ?_))))
 simp only [beq_self_eq_true, ↓reduceIte]
 exact Ev.now _
end Go.Proofs.YtbekikafhpdehaaDoor.Pure
