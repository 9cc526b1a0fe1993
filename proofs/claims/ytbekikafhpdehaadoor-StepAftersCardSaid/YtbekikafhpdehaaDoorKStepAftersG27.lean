import Derived.Test.YtbekikafhpdehaaDoorKStepAftersG26
import Derived.Test.YtbekikafhpdehaaDoorKStepAftersG20
import Derived.Test.YtbekikafhpdehaaDoorKStepAftersG23
import Derived.Test.YtbekikafhpdehaaDoorKStepAftersG24
import Derived.Test.YtbekikafhpdehaaDoorKStepAftersG25
namespace Go.Proofs.YtbekikafhpdehaaDoor.Pure
open Go.RowKit Go.Proofs.YtbekikafhpdehaaDoor Go.Proofs.YtbekikafhpdehaaDoor.S Go.Proofs.YtbekikafhpdehaaDoor.Base Go.Proofs.YtbekikafhpdehaaDoorW.PrintWords Go.Proofs.YtbekikafhpdehaaDoorW.PrintLast Go.Proofs.YtbekikafhpdehaaDoorW.PrintMore
set_option linter.unusedVariables false
set_option linter.unusedSimpArgs false
def optL (o : Option (List Int)) : List Int × Bool := match o with | none => ([], false) | some x => (x, true)
theorem after_l0 (vs : List PVar) (rs : List PRule) (env : List Int) (ss : List PSet) (hs : ss.length ≤ 6) (hr : ∀ s ∈ ss, 0 ≤ s.f0 ∧ s.f0 < (vs.length : Int)) (d : Nat) : ∀ (i : Nat) (out : List Int), i + d = ss.length → out.length = vs.length →
  Ev (fun k => step_after.l0 k env out ss (ss.length : Int) (i : Int) vs rs) (optL (applyS vs env (ss.drop i) out)) := by
 induction d with
 | zero =>
  intro i out hi ho
  rw [List.drop_of_length_le (by omega)]
  have c1 : ¬ (i : Int) < (ss.length : Int) := by omega
  refine ev_succ ?_
  simp only [step_after.l0, ↓reduceIte, c1]
  exact Ev.now _
 | succ d ih =>
  intro i out hi ho
  have hil : i < ss.length := by omega
  have c1 : (i : Int) < (ss.length : Int) := by omega
  have c2 : (0 : Int) ≤ (i : Int) := Int.natCast_nonneg _
  have w1 : wrap64 ((i : Int) + 1) = ((i + 1 : Nat) : Int) := by rw [wrap_id (by omega) (by omega)]; rfl
  have hsr := hr _ (List.getElem_mem hil)
  have c3 : ss[i].f0 < (out.length : Int) := by omega
  have he : expr_Eval.f ss[i].f1 env = some (evalS ss[i].f1 env) := rfl
  rw [List.drop_eq_getElem_cons hil, applyS]
  refine ev_succ ?_
  simp only [step_after.l0, ↓reduceIte, c1, c2, rdS_get ss i hil, he, x_bind, hsr.1, hsr.2, c3, w1]
  by_cases h1 : (evalS ss[i].f1 env).2 = 0
  ·simp only [h1, ↓reduceIte, true_and]
   by_cases h2 : (evalS ss[i].f1 env).1 < (rd_T58 vs ss[i].f0).f1
   ·have h4 : ¬ ((rd_T58 vs ss[i].f0).f1 ≤ (evalS ss[i].f1 env).1 ∧ (evalS ss[i].f1 env).1 ≤ (rd_T58 vs ss[i].f0).f2) := by omega
    simp only [h2, h4, ↓reduceIte]
    exact Ev.now _
   ·by_cases h3 : (evalS ss[i].f1 env).1 > (rd_T58 vs ss[i].f0).f2
    ·have h4 : ¬ ((rd_T58 vs ss[i].f0).f1 ≤ (evalS ss[i].f1 env).1 ∧ (evalS ss[i].f1 env).1 ≤ (rd_T58 vs ss[i].f0).f2) := by omega
     simp only [h2, h3, h4, ↓reduceIte]
     exact Ev.now _
    ·have h4 : (rd_T58 vs ss[i].f0).f1 ≤ (evalS ss[i].f1 env).1 ∧ (evalS ss[i].f1 env).1 ≤ (rd_T58 vs ss[i].f0).f2 := by omega
     simp only [h2, h3, h4, ↓reduceIte, and_self]
     exact ih (i + 1) _ (by omega) (by rw [List.length_set]; exact ho)
  ·simp only [h1, ↓reduceIte, false_and]
   exact Ev.now _
theorem after_ev (vs : List PVar) (rs : List PRule) (r : PRule) (env : List Int) (hs : r.f1.length ≤ 6) (hr : ∀ s ∈ r.f1, 0 ≤ s.f0 ∧ s.f0 < (vs.length : Int)) (hl : env.length = vs.length) (h6 : vs.length ≤ 6) :
  Ev (fun k => step_after.f k vs rs r.f0 r.f1 env) (optL (afterV vs r env)) := by
 have he : expr_Eval.f r.f0 env = some (evalS r.f0 env) := rfl
 have hc : slices_Clone_int_int.f env = some env := by unfold slices_Clone_int_int.f; rw [if_pos (by omega)]
 have ff : ((false : Bool) = true) = False := by simp
 unfold step_after.f afterV
 simp only [he, x_bind]
 by_cases h1 : (evalS r.f0 env).2 = 0
 ·by_cases h2 : (evalS r.f0 env).1 = 0
  ·have h3 : ((evalS r.f0 env).1 == 0) = true := beq_iff_eq.2 h2
   have h4 : ¬ ((evalS r.f0 env).2 = 0 ∧ (evalS r.f0 env).1 ≠ 0) := fun h => h.2 h2
   rw [if_neg h4]
   simp only [h1, h3, ↓reduceIte]
   refine ev_succ ?_
   simp only [step_after.j0, ↓reduceIte]
   exact Ev.now _
  ·have h3 : ((evalS r.f0 env).1 == 0) = false := beq_eq_false_iff_ne.2 h2
   rw [if_pos ⟨h1, h2⟩]
   simp only [h1, h3, ↓reduceIte]
   refine ev_succ ?_
   simp only [step_after.j0, ff, ↓reduceIte, hc, x_bind]
   exact after_l0 vs rs env r.f1 hs hr r.f1.length 0 env (by omega) hl
 ·have h4 : ¬ ((evalS r.f0 env).2 = 0 ∧ (evalS r.f0 env).1 ≠ 0) := fun h => h1 h.1
  rw [if_neg h4]
  simp only [h1, ↓reduceIte]
  refine ev_succ ?_
  simp only [step_after.j0, ↓reduceIte]
  exact Ev.now _
structure AtOK (vs : List PVar) (rs : List PRule) (c : Int) : Prop where
 m : modelS vs rs = 0
 l : (valuesS vs rs c).1.length = vs.length
 six : vs.length ≤ 6
theorem at_ok {vs : List PVar} {rs : List PRule} {c : Int} (h : (valuesS vs rs c).2 = 0) : AtOK vs rs c := by
 unfold valuesS at h
 by_cases hm : modelS vs rs = 0
 ·refine ⟨hm, ?_, modelS_len hm⟩
  unfold valuesS
  rw [if_pos hm] at h ⊢
  by_cases hc : c < 0 ∨ prodV vs ≤ c
  ·rw [if_pos hc] at h; cases h
  ·rw [if_neg hc]; exact valS_len vs c
 ·rw [if_neg hm] at h; exact absurd h hm
theorem rule_facts {vs : List PVar} {rs : List PRule} (h : modelS vs rs = 0) {j : Nat} (hj : j < rs.length) : rs[j].f1.length ≤ 6 ∧ ∀ s ∈ rs[j].f1, 0 ≤ s.f0 ∧ s.f0 < (vs.length : Int) := by
 have hr := rulesS_at (vs.length : Int) rs j hj (modelS_rules h).1
 refine ⟨?_, (ruleS_ok hr).2.ran⟩
 unfold ruleS at hr
 split at hr
 ·cases hr
 ·omega
theorem stepAfter_ev (vs : List PVar) (rs : List PRule) (c k : Int) : Ev (fun q => step_After.f q vs rs c k) (afterS vs rs c k) := by
 have ff : ((false : Bool) = true) = False := by simp
 unfold step_After.f afterS
 refine ev_bind (values_ev vs rs c) ?_
 by_cases h : (valuesS vs rs c).2 = 0
 ·have hok := at_ok h
  simp only [h, ↓reduceIte]
  by_cases h0 : k < 0
  ·have h1 : ¬ (0 ≤ k ∧ k < (rs.length : Int)) := by omega
   simp only [h0, h1, ↓reduceIte]
   refine ev_succ ?_
   simp only [step_After.j0, ↓reduceIte]
   exact Ev.now _
  ·by_cases h1 : k ≥ (rs.length : Int)
   ·have h2 : ¬ (0 ≤ k ∧ k < (rs.length : Int)) := by omega
    have h3 : decide (k ≥ (rs.length : Int)) = true := decide_eq_true h1
    simp only [h0, h2, h3, ↓reduceIte]
    refine ev_succ ?_
    simp only [step_After.j0, ↓reduceIte]
    exact Ev.now _
   ·have h2 : 0 ≤ k ∧ k < (rs.length : Int) := by omega
    have h3 : decide (k ≥ (rs.length : Int)) = false := decide_eq_false h1
    obtain ⟨j, rfl⟩ := Int.eq_ofNat_of_zero_le h2.1
    have hj : j < rs.length := by omega
    obtain ⟨f1, f2⟩ := rule_facts hok.m hj
    simp only [h0, h2, h3, ↓reduceIte, and_self]
    rw [rdR_get rs j hj]
    refine ev_succ ?_
    simp only [step_After.j0, ff, ↓reduceIte, h2.1, h2.2, rdR_get rs j hj]
    refine ev_bind (after_ev vs rs rs[j] (valuesS vs rs c).1 f1 f2 hok.l hok.six) ?_
    cases afterV vs rs[j] (valuesS vs rs c).1 with
    | none =>
     simp only [optL, ff, ↓reduceIte]
     exact Ev.now _
    | some out =>
     simp only [optL, ↓reduceIte]
     exact ev_bind (code_ev vs rs out) (Ev.now _)
 ·simp only [h, ↓reduceIte]
  exact Ev.now _
theorem afterRule_l1 (vs : List PVar) (rs : List PRule) (env : List Int) (h6 : env.length ≤ 6) (g : List POp) (ss : List PSet) (hs : ss.length ≤ 6) (acc : List Int) (ha : acc.length ≤ 6) (i : Nat) (hi : i < env.length) (R : Int × Int)
  (hR : ∀ y, Ev (fun k => foretellref_AfterRule.l0 k env (acc ++ [y]) ((i + 1 : Nat) : Int) vs rs g ss) (if (oneVar env (i : Int) ss y).isSome = true then R else R) → True) (G : Int → Int × Int)
  (hG : ∀ y, Ev (fun k => foretellref_AfterRule.l0 k env (acc ++ [y]) ((i + 1 : Nat) : Int) vs rs g ss) (G y)) (d : Nat) : ∀ (j : Nat) (x : Int), j + d = ss.length →
  Ev (fun k => foretellref_AfterRule.l1 k env acc (i : Int) x (j : Int) vs rs g ss) (match oneVar env (i : Int) (ss.drop j) x with | none => (0, 11) | some y => G y) := by
 have c4 : acc.length < 17592186044416 := by omega
 have w2 : wrap64 ((i : Int) + 1) = ((i + 1 : Nat) : Int) := by rw [wrap_id (by omega) (by omega)]; rfl
 induction d with
 | zero =>
  intro j x hj
  rw [List.drop_of_length_le (by omega)]
  have c1 : ¬ (j : Int) < (ss.length : Int) := by omega
  refine ev_succ ?_
  simp only [foretellref_AfterRule.l1, ↓reduceIte, c1, c4, w2, oneVar]
  exact hG x
 | succ d ih =>
  intro j x hj
  have hjl : j < ss.length := by omega
  have c1 : (j : Int) < (ss.length : Int) := by omega
  have c2 : (0 : Int) ≤ (j : Int) := Int.natCast_nonneg _
  have w1 : wrap64 ((j : Int) + 1) = ((j + 1 : Nat) : Int) := by rw [wrap_id (by omega) (by omega)]; rfl
  rw [List.drop_eq_getElem_cons hjl, oneVar]
  refine ev_succ ?_
  simp only [foretellref_AfterRule.l1, ↓reduceIte, c1, c2, rdS_get ss j hjl, w1]
  by_cases h1 : ss[j].f0 = (i : Int)
  ·simp only [h1, ↓reduceIte]
   refine ev_bind (evaluated_ev ss[j].f1 env (by omega)) ?_
   by_cases h2 : (evalS ss[j].f1 env).2 = 0
   ·simp only [h2, ↓reduceIte]
    exact ih (j + 1) _ (by omega)
   ·simp only [h2, ↓reduceIte]
    exact Ev.now _
  ·simp only [h1, ↓reduceIte]
   exact ih (j + 1) x (by omega)
def endR (vs : List PVar) (rs : List PRule) (o : Option (List Int)) : Int × Int := match o with | none => (0, 11) | some out => if (codeS vs rs out).2 = 0 then ((codeS vs rs out).1, 0) else (0, 11)
theorem afterRule_l0 (vs : List PVar) (rs : List PRule) (env : List Int) (h6 : env.length ≤ 6) (g : List POp) (ss : List PSet) (hs : ss.length ≤ 6) (d : Nat) : ∀ (i : Nat) (acc : List Int), i + d = env.length → acc.length = i →
  Ev (fun k => foretellref_AfterRule.l0 k env acc (i : Int) vs rs g ss) (endR vs rs ((allVars env ss (env.drop i) i).map (acc ++ ·))) := by
 induction d with
 | zero =>
  intro i acc hi ha
  rw [List.drop_of_length_le (by omega)]
  have c1 : ¬ (i : Int) < (env.length : Int) := by omega
  refine ev_succ ?_
  simp only [foretellref_AfterRule.l0, ↓reduceIte, c1]
  refine ev_bind (codeOf_ev vs rs acc) ?_
  simp only [allVars, Option.map_some, List.append_nil, endR]
  by_cases h : (codeS vs rs acc).2 = 0
  ·simp only [h, ↓reduceIte]; exact Ev.now _
  ·simp only [h, ↓reduceIte]; exact Ev.now _
 | succ d ih =>
  intro i acc hi ha
  have hil : i < env.length := by omega
  have c1 : (i : Int) < (env.length : Int) := by omega
  have c2 : (0 : Int) ≤ (i : Int) := Int.natCast_nonneg _
  have hg : rd env (i : Int) = env[i] := rd_get _ _ hil
  rw [List.drop_eq_getElem_cons hil, allVars]
  refine ev_succ ?_
  simp only [foretellref_AfterRule.l0, ↓reduceIte, c1, c2, hg]
  refine ev_eq (afterRule_l1 vs rs env h6 g ss hs acc (by omega) i hil (0, 0) (fun _ _ => trivial) (fun y => endR vs rs ((allVars env ss (env.drop (i + 1)) (i + 1)).map ((acc ++ [y]) ++ ·))) (fun y => ih (i + 1) (acc ++ [y]) (by omega) (by rw [List.length_append, ha]; rfl)) ss.length 0 env[i] (by omega)) ?_
  rw [List.drop_zero]
  cases oneVar env (i : Int) ss env[i] with
  | none => rfl
  | some y =>
   simp only
   cases allVars env ss (env.drop (i + 1)) (i + 1) with
   | none => rfl
   | some o => simp only [Option.map_some, List.append_assoc, List.singleton_append]
theorem afterRule_ev (vs : List PVar) (rs : List PRule) (c k : Int) : Ev (fun q => foretellref_AfterRule.f q vs rs c k) (ruleAt vs rs c k) := by
 have ff : ((false : Bool) = true) = False := by simp
 unfold foretellref_AfterRule.f ruleAt
 refine ev_bind (valuesOf_ev vs rs c) ?_
 by_cases h : (valuesS vs rs c).2 = 0
 ·have hok := at_ok h
  have hrl := (modelS_rules hok.m).2
  have hle : (valuesS vs rs c).1.length ≤ 6 := by have := hok.l; have := hok.six; omega
  have w0 : wrap64 ((rs.length : Int) - 1) = (rs.length : Int) - 1 := wrap_id (by omega) (by omega)
  simp only [h, ↓reduceIte, w0]
  refine ev_call (inE_eq _ _ _) ?_
  by_cases h1 : 0 ≤ k ∧ k < (rs.length : Int)
  ·have h2 : decide (0 ≤ k ∧ k ≤ (rs.length : Int) - 1) = true := decide_eq_true (by omega)
   obtain ⟨j, rfl⟩ := Int.eq_ofNat_of_zero_le h1.1
   have hj : j < rs.length := by omega
   obtain ⟨f1, f2⟩ := rule_facts hok.m hj
   simp only [h2, ↓reduceIte]
   simp only [h1, ↓reduceIte, and_self, rdR_get rs j hj]
   refine ev_bind (evaluated_ev rs[j].f0 (valuesS vs rs c).1 (by omega)) ?_
   unfold ruleV
   by_cases h3 : (evalS rs[j].f0 (valuesS vs rs c).1).2 = 0
   ·by_cases h4 : (evalS rs[j].f0 (valuesS vs rs c).1).1 = 1
    ·have h5 : ((evalS rs[j].f0 (valuesS vs rs c).1).1 != 1) = false := bne_eq_false_iff_eq.2 h4
     rw [if_pos ⟨h3, h4⟩]
     simp only [h3, h5, ↓reduceIte]
     refine ev_succ ?_
     simp only [foretellref_AfterRule.j0, ff, ↓reduceIte]
     refine ev_eq (afterRule_l0 vs rs (valuesS vs rs c).1 hle rs[j].f0 rs[j].f1 f1 (valuesS vs rs c).1.length 0 [] (by omega) rfl) ?_
     rw [List.drop_zero]
     unfold endR
     cases allVars (valuesS vs rs c).1 rs[j].f1 (valuesS vs rs c).1 0 with
     | none => rfl
     | some o => rfl
    ·have h5 : ((evalS rs[j].f0 (valuesS vs rs c).1).1 != 1) = true := bne_iff_ne.2 h4
     rw [if_neg (fun hc => h4 hc.2)]
     simp only [h3, h5, ↓reduceIte]
     refine ev_succ ?_
     simp only [foretellref_AfterRule.j0, ↓reduceIte]
     exact Ev.now _
   ·rw [if_neg (fun hc => h3 hc.1)]
    simp only [h3, ↓reduceIte]
    refine ev_succ ?_
    simp only [foretellref_AfterRule.j0, ↓reduceIte]
    exact Ev.now _
  ·have h2 : decide (0 ≤ k ∧ k ≤ (rs.length : Int) - 1) = false := decide_eq_false (by omega)
   simp only [h2, ff, ↓reduceIte]
   simp only [h1, ↓reduceIte]
   exact Ev.now _
 ·simp only [h, ↓reduceIte]
  exact Ev.now _
end Go.Proofs.YtbekikafhpdehaaDoor.Pure
namespace Go.Proofs.YtbekikafhpdehaaDoor.Pure
open Go.RowKit Go.Proofs.YtbekikafhpdehaaDoor Go.Proofs.YtbekikafhpdehaaDoor.S Go.Proofs.YtbekikafhpdehaaDoor.Base Go.Proofs.YtbekikafhpdehaaDoorW.PrintWords Go.Proofs.YtbekikafhpdehaaDoorW.PrintLast Go.Proofs.YtbekikafhpdehaaDoorW.PrintMore
set_option linter.unusedVariables false
theorem StepAfters (x0 : S25) (a1 : Int) (a2 : Int) (good0 : G25 x0) (w1 : (Lit.int .i64 a1).wf = true) (w2 : (Lit.int .i64 a2).wf = true) : ∃ k, foretelllaw_StepAfters.f k x0.f0 x0.f1 a1 a2 = some true := by
 refine Ev.rounds (g := fun k => foretelllaw_StepAfters.f k x0.f0 x0.f1 a1 a2) ?_
 unfold foretelllaw_StepAfters.f
 have h := afterRule_ev x0.f0 x0.f1 a1 a2
 rw [ruleAt_eq] at h
 refine ev_bind (models_ev x0 good0) (ev_bind (stepAfter_ev x0.f0 x0.f1 a1 a2) (ev_bind h ?_))
 simp only [↓reduceIte]
 exact ev_bind (sameModel_ev x0 good0) (Ev.now _)
end Go.Proofs.YtbekikafhpdehaaDoor.Pure
