import Derived.Test.YtbekikafhpdehaaDoorKVerdictRunsG48
import Derived.Test.YtbekikafhpdehaaDoorKVerdictRunsG49
import Derived.Test.YtbekikafhpdehaaDoorKVerdictRunsG26
import Derived.Test.YtbekikafhpdehaaDoorKVerdictRunsG41
import Derived.Test.YtbekikafhpdehaaDoorKVerdictRunsG32
import Derived.Test.YtbekikafhpdehaaDoorKVerdictRunsG42
import Derived.Test.YtbekikafhpdehaaDoorKVerdictRunsG47
import Derived.Test.YtbekikafhpdehaaDoorKVerdictRunsG46
namespace Go.Proofs.YtbekikafhpdehaaDoor.Pure
open Go.RowKit Go.Proofs.YtbekikafhpdehaaDoor Go.Proofs.YtbekikafhpdehaaDoor.V Go.Proofs.YtbekikafhpdehaaDoor.Base Go.Proofs.YtbekikafhpdehaaDoorW.PrintWords Go.Proofs.YtbekikafhpdehaaDoorW.PrintLast Go.Proofs.YtbekikafhpdehaaDoorW.PrintMore
set_option linter.unusedVariables false
set_option linter.unusedSimpArgs false
theorem applyS_in (vs : List PVar) (env : List Int) : ∀ (ss : List PSet) (out o : List Int), (∀ s ∈ ss, 0 ≤ s.f0 ∧ s.f0 < (vs.length : Int)) → out.length = vs.length → inB vs out → applyS vs env ss out = some o → inB vs o
 | [], out, o, _, _, hb, h => by
  simp only [applyS, Option.some.injEq] at h
  rw [← h]; exact hb
 | s :: ss, out, o, hr, hl, hb, h => by
  unfold applyS at h
  split at h
  ·rename_i hc
   refine applyS_in vs env ss _ o (fun u hu => hr u (by simp [hu])) (by rw [List.length_set]; exact hl) ?_ h
   have hs := hr s (by simp)
   intro i hi g
   rw [List.getElem_set]
   by_cases e : s.f0.toNat = i
   ·rw [if_pos e]
    have e2 : s.f0 = (i : Int) := by omega
    rw [e2, rdV_get vs i hi] at hc
    exact hc.2
   ·rw [if_neg e]
    exact hb i hi (by rw [List.length_set] at g; exact g)
  ·cases h
theorem afterV_ok {vs : List PVar} {rs : List PRule} (h : modelS vs rs = 0) {r : PRule} {env out : List Int} (hr : ruleS r.f0 r.f1 (vs.length : Int) = 0) (hl : env.length = vs.length) (hin : inB vs env) (ha : afterV vs r env = some out) :
  out.length = vs.length ∧ ∃ n, codeS vs rs out = (n, 0) ∧ 0 ≤ n ∧ n < prodV vs := by
 obtain ⟨hg, hok⟩ := ruleS_ok hr
 unfold afterV at ha
 split at ha
 ·have hlen := (applyS_len vs env r.f1 env out ha).trans hl
  have hb := applyS_in vs env r.f1 env out hok.ran hl hin ha
  obtain ⟨n, hn⟩ := encR_in vs out hlen hb
  obtain ⟨ho, hp⟩ := vars_ok (modelS_vars h)
  refine ⟨hlen, n, ?_, encR_bd vs out ho hlen n hn⟩
  unfold codeS
  rw [if_pos h, if_pos hlen, hn]
  simp [encP]
 ·cases ha
def codesS (vs : List PVar) (rs : List PRule) (env : List Int) : List PRule → List Int
 | [] => []
 | r :: q => match afterV vs r env with | none => codesS vs rs env q | some out => (codeS vs rs out).1 :: codesS vs rs env q
theorem codesS_in {vs : List PVar} {rs : List PRule} (h : modelS vs rs = 0) {env : List Int} (hl : env.length = vs.length) (hin : inB vs env) : ∀ q : List PRule, (∀ r ∈ q, ruleS r.f0 r.f1 (vs.length : Int) = 0) → ∀ x ∈ codesS vs rs env q, 0 ≤ x ∧ x < prodV vs
 | [], _, x, hx => (nomatch hx)
 | r :: q, hq, x, hx => by
  unfold codesS at hx
  split at hx
  ·exact codesS_in h hl hin q (fun u hu => hq u (by simp [hu])) x hx
  ·rename_i out ha
   obtain ⟨_, n, hn, h0, h1⟩ := afterV_ok h (hq r (by simp)) hl hin ha
   rcases List.mem_cons.1 hx with e | hx
   ·rw [e, hn]; exact ⟨h0, h1⟩
   ·exact codesS_in h hl hin q (fun u hu => hq u (by simp [hu])) x hx
theorem rules_all {vs : List PVar} {rs : List PRule} (h : modelS vs rs = 0) : ∀ r ∈ rs, ruleS r.f0 r.f1 (vs.length : Int) = 0 := by
 intro r hr
 obtain ⟨k, hk, rfl⟩ := List.mem_iff_getElem.1 hr
 exact rulesS_at _ rs k hk (modelS_rules h).1
def behindL (vs : List PVar) (rs : List PRule) (c : Int) : List Int :=
 if codesS vs rs (valS vs c) rs = [] then [c] else upTo (prodV vs).toNat (codesS vs rs (valS vs c) rs)
def nextS (vs : List PVar) (rs : List PRule) (c : Int) : List Int × Int := if (valuesS vs rs c).2 = 0 then (behindL vs rs c, 0) else ([], (valuesS vs rs c).2)
theorem valuesS_ok {vs : List PVar} {rs : List PRule} {c : Int} (h : (valuesS vs rs c).2 = 0) : modelS vs rs = 0 ∧ 0 ≤ c ∧ c < prodV vs ∧ (valuesS vs rs c).1 = valS vs c := by
 unfold valuesS at h ⊢
 by_cases hm : modelS vs rs = 0
 ·rw [if_pos hm] at h ⊢
  by_cases hc : c < 0 ∨ prodV vs ≤ c
  ·rw [if_pos hc] at h; cases h
  ·rw [if_neg hc]
   exact ⟨hm, by omega, by omega, rfl⟩
 ·rw [if_neg hm] at h; exact absurd h hm
theorem upTo_ne {n : Nat} {l : List Int} (hl : ∀ x ∈ l, 0 ≤ x ∧ x < (n : Int)) (h : l ≠ []) : upTo n l ≠ [] := by
 obtain ⟨x, hx⟩ := List.exists_mem_of_ne_nil l h
 intro e
 have := (upTo_mem n l x).2 ⟨hl x hx, hx⟩
 rw [e] at this
 simp at this
def optL (o : Option (List Int)) : List Int × Bool := match o with | none => ([], false) | some x => (x, true)
theorem after_l0 (vs : List PVar) (rs : List PRule) (env : List Int) (ss : List PSet) (hs : ss.length ≤ 6) (hr : ∀ s ∈ ss, 0 ≤ s.f0 ∧ s.f0 < (vs.length : Int)) (d : Nat) : ∀ (i : Nat) (out : List Int), i + d = ss.length → out.length = vs.length →
  Ev (fun k => step_after.l0 k env out ss (ss.length : Int) (i : Int) vs rs) (optL (applyS vs env (ss.drop i) out)) := by
 induction d with
 | zero =>
  intro i out hi ho
  rw [List.drop_of_length_le (by omega)]
  have c1 : ¬ (i : Int) < (ss.length : Int) := by omega
  refine ev_succ ?_
  simp only [step_after.l0, ↓reduceIte, c1]
  exact Ev.now _
 | succ d ih =>
  intro i out hi ho
  have hil : i < ss.length := by omega
  have c1 : (i : Int) < (ss.length : Int) := by omega
  have c2 : (0 : Int) ≤ (i : Int) := Int.natCast_nonneg _
  have w1 : wrap64 ((i : Int) + 1) = ((i + 1 : Nat) : Int) := by rw [wrap_id (by omega) (by omega)]; rfl
  have hsr := hr _ (List.getElem_mem hil)
  have c3 : ss[i].f0 < (out.length : Int) := by omega
  have he : expr_Eval.f ss[i].f1 env = some (evalS ss[i].f1 env) := rfl
  rw [List.drop_eq_getElem_cons hil, applyS]
  refine ev_succ ?_
  simp only [step_after.l0, ↓reduceIte, c1, c2, rdS_get ss i hil, he, x_bind, hsr.1, hsr.2, c3, w1]
  by_cases h1 : (evalS ss[i].f1 env).2 = 0
  ·simp only [h1, ↓reduceIte, true_and]
   by_cases h2 : (evalS ss[i].f1 env).1 < (rd_T58 vs ss[i].f0).f1
   ·have h4 : ¬ ((rd_T58 vs ss[i].f0).f1 ≤ (evalS ss[i].f1 env).1 ∧ (evalS ss[i].f1 env).1 ≤ (rd_T58 vs ss[i].f0).f2) := by omega
    simp only [h2, h4, ↓reduceIte]
    exact Ev.now _
   ·by_cases h3 : (evalS ss[i].f1 env).1 > (rd_T58 vs ss[i].f0).f2
    ·have h4 : ¬ ((rd_T58 vs ss[i].f0).f1 ≤ (evalS ss[i].f1 env).1 ∧ (evalS ss[i].f1 env).1 ≤ (rd_T58 vs ss[i].f0).f2) := by omega
     simp only [h2, h3, h4, ↓reduceIte]
     exact Ev.now _
    ·have h4 : (rd_T58 vs ss[i].f0).f1 ≤ (evalS ss[i].f1 env).1 ∧ (evalS ss[i].f1 env).1 ≤ (rd_T58 vs ss[i].f0).f2 := by omega
     simp only [h2, h3, h4, ↓reduceIte, and_self]
     exact ih (i + 1) _ (by omega) (by rw [List.length_set]; exact ho)
  ·simp only [h1, ↓reduceIte, false_and]
   exact Ev.now _
theorem after_ev (vs : List PVar) (rs : List PRule) (r : PRule) (env : List Int) (hs : r.f1.length ≤ 6) (hr : ∀ s ∈ r.f1, 0 ≤ s.f0 ∧ s.f0 < (vs.length : Int)) (hl : env.length = vs.length) (h6 : vs.length ≤ 6) :
  Ev (fun k => step_after.f k vs rs r.f0 r.f1 env) (optL (afterV vs r env)) := by
 have he : expr_Eval.f r.f0 env = some (evalS r.f0 env) := rfl
 have hc : slices_Clone_int_int.f env = some env := by unfold slices_Clone_int_int.f; rw [if_pos (by omega)]
 have ff : ((false : Bool) = true) = False := by simp
 unfold step_after.f afterV
 simp only [he, x_bind]
 by_cases h1 : (evalS r.f0 env).2 = 0
 ·by_cases h2 : (evalS r.f0 env).1 = 0
  ·have h3 : ((evalS r.f0 env).1 == 0) = true := beq_iff_eq.2 h2
   have h4 : ¬ ((evalS r.f0 env).2 = 0 ∧ (evalS r.f0 env).1 ≠ 0) := fun h => h.2 h2
   rw [if_neg h4]
   simp only [h1, h3, ↓reduceIte]
   refine ev_succ ?_
   simp only [step_after.j0, ↓reduceIte]
   exact Ev.now _
  ·have h3 : ((evalS r.f0 env).1 == 0) = false := beq_eq_false_iff_ne.2 h2
   rw [if_pos ⟨h1, h2⟩]
   simp only [h1, h3, ↓reduceIte]
   refine ev_succ ?_
   simp only [step_after.j0, ff, ↓reduceIte, hc, x_bind]
   exact after_l0 vs rs env r.f1 hs hr r.f1.length 0 env (by omega) hl
 ·have h4 : ¬ ((evalS r.f0 env).2 = 0 ∧ (evalS r.f0 env).1 ≠ 0) := fun h => h1 h.1
  rw [if_neg h4]
  simp only [h1, ↓reduceIte]
  refine ev_succ ?_
  simp only [step_after.j0, ↓reduceIte]
  exact Ev.now _
structure AtOK (vs : List PVar) (rs : List PRule) (c : Int) : Prop where
 m : modelS vs rs = 0
 l : (valuesS vs rs c).1.length = vs.length
 six : vs.length ≤ 6
theorem at_ok {vs : List PVar} {rs : List PRule} {c : Int} (h : (valuesS vs rs c).2 = 0) : AtOK vs rs c := by
 unfold valuesS at h
 by_cases hm : modelS vs rs = 0
 ·refine ⟨hm, ?_, modelS_len hm⟩
  unfold valuesS
  rw [if_pos hm] at h ⊢
  by_cases hc : c < 0 ∨ prodV vs ≤ c
  ·rw [if_pos hc] at h; cases h
  ·rw [if_neg hc]; exact valS_len vs c
 ·rw [if_neg hm] at h; exact absurd h hm
theorem rule_facts {vs : List PVar} {rs : List PRule} (h : modelS vs rs = 0) {j : Nat} (hj : j < rs.length) : rs[j].f1.length ≤ 6 ∧ ∀ s ∈ rs[j].f1, 0 ≤ s.f0 ∧ s.f0 < (vs.length : Int) := by
 have hr := rulesS_at (vs.length : Int) rs j hj (modelS_rules h).1
 refine ⟨?_, (ruleS_ok hr).2.ran⟩
 unfold ruleS at hr
 split at hr
 ·cases hr
 ·omega
theorem afterRule_l1 (vs : List PVar) (rs : List PRule) (env : List Int) (h6 : env.length ≤ 6) (g : List POp) (ss : List PSet) (hs : ss.length ≤ 6) (acc : List Int) (ha : acc.length ≤ 6) (i : Nat) (hi : i < env.length) (R : Int × Int)
  (hR : ∀ y, Ev (fun k => foretellref_AfterRule.l0 k env (acc ++ [y]) ((i + 1 : Nat) : Int) vs rs g ss) (if (oneVar env (i : Int) ss y).isSome = true then R else R) → True) (G : Int → Int × Int)
  (hG : ∀ y, Ev (fun k => foretellref_AfterRule.l0 k env (acc ++ [y]) ((i + 1 : Nat) : Int) vs rs g ss) (G y)) (d : Nat) : ∀ (j : Nat) (x : Int), j + d = ss.length →
  Ev (fun k => foretellref_AfterRule.l1 k env acc (i : Int) x (j : Int) vs rs g ss) (match oneVar env (i : Int) (ss.drop j) x with | none => (0, 11) | some y => G y) := by
 have c4 : acc.length < 17592186044416 := by omega
 have w2 : wrap64 ((i : Int) + 1) = ((i + 1 : Nat) : Int) := by rw [wrap_id (by omega) (by omega)]; rfl
 induction d with
 | zero =>
  intro j x hj
  rw [List.drop_of_length_le (by omega)]
  have c1 : ¬ (j : Int) < (ss.length : Int) := by omega
  refine ev_succ ?_
  simp only [foretellref_AfterRule.l1, ↓reduceIte, c1, c4, w2, oneVar]
  exact hG x
 | succ d ih =>
  intro j x hj
  have hjl : j < ss.length := by omega
  have c1 : (j : Int) < (ss.length : Int) := by omega
  have c2 : (0 : Int) ≤ (j : Int) := Int.natCast_nonneg _
  have w1 : wrap64 ((j : Int) + 1) = ((j + 1 : Nat) : Int) := by rw [wrap_id (by omega) (by omega)]; rfl
  rw [List.drop_eq_getElem_cons hjl, oneVar]
  refine ev_succ ?_
  simp only [foretellref_AfterRule.l1, ↓reduceIte, c1, c2, rdS_get ss j hjl, w1]
  by_cases h1 : ss[j].f0 = (i : Int)
  ·simp only [h1, ↓reduceIte]
   refine ev_bind (evaluated_ev ss[j].f1 env (by omega)) ?_
   by_cases h2 : (evalS ss[j].f1 env).2 = 0
   ·simp only [h2, ↓reduceIte]
    exact ih (j + 1) _ (by omega)
   ·simp only [h2, ↓reduceIte]
    exact Ev.now _
  ·simp only [h1, ↓reduceIte]
   exact ih (j + 1) x (by omega)
def endR (vs : List PVar) (rs : List PRule) (o : Option (List Int)) : Int × Int := match o with | none => (0, 11) | some out => if (codeS vs rs out).2 = 0 then ((codeS vs rs out).1, 0) else (0, 11)
theorem afterRule_l0 (vs : List PVar) (rs : List PRule) (env : List Int) (h6 : env.length ≤ 6) (g : List POp) (ss : List PSet) (hs : ss.length ≤ 6) (d : Nat) : ∀ (i : Nat) (acc : List Int), i + d = env.length → acc.length = i →
  Ev (fun k => foretellref_AfterRule.l0 k env acc (i : Int) vs rs g ss) (endR vs rs ((allVars env ss (env.drop i) i).map (acc ++ ·))) := by
 induction d with
 | zero =>
  intro i acc hi ha
  rw [List.drop_of_length_le (by omega)]
  have c1 : ¬ (i : Int) < (env.length : Int) := by omega
  refine ev_succ ?_
  simp only [foretellref_AfterRule.l0, ↓reduceIte, c1]
  refine ev_bind (codeOf_ev vs rs acc) ?_
  simp only [allVars, Option.map_some, List.append_nil, endR]
  by_cases h : (codeS vs rs acc).2 = 0
  ·simp only [h, ↓reduceIte]; exact Ev.now _
  ·simp only [h, ↓reduceIte]; exact Ev.now _
 | succ d ih =>
  intro i acc hi ha
  have hil : i < env.length := by omega
  have c1 : (i : Int) < (env.length : Int) := by omega
  have c2 : (0 : Int) ≤ (i : Int) := Int.natCast_nonneg _
  have hg : rd env (i : Int) = env[i] := rd_get _ _ hil
  rw [List.drop_eq_getElem_cons hil, allVars]
  refine ev_succ ?_
  simp only [foretellref_AfterRule.l0, ↓reduceIte, c1, c2, hg]
  refine ev_eq (afterRule_l1 vs rs env h6 g ss hs acc (by omega) i hil (0, 0) (fun _ _ => trivial) (fun y => endR vs rs ((allVars env ss (env.drop (i + 1)) (i + 1)).map ((acc ++ [y]) ++ ·))) (fun y => ih (i + 1) (acc ++ [y]) (by omega) (by rw [List.length_append, ha]; rfl)) ss.length 0 env[i] (by omega)) ?_
  rw [List.drop_zero]
  cases oneVar env (i : Int) ss env[i] with
  | none => rfl
  | some y =>
   simp only
   cases allVars env ss (env.drop (i + 1)) (i + 1) with
   | none => rfl
   | some o => simp only [Option.map_some, List.append_assoc, List.singleton_append]
theorem afterRule_ev (vs : List PVar) (rs : List PRule) (c k : Int) : Ev (fun q => foretellref_AfterRule.f q vs rs c k) (ruleAt vs rs c k) := by
 have ff : ((false : Bool) = true) = False := by simp
 unfold foretellref_AfterRule.f ruleAt
 refine ev_bind (valuesOf_ev vs rs c) ?_
 by_cases h : (valuesS vs rs c).2 = 0
 ·have hok := at_ok h
  have hrl := (modelS_rules hok.m).2
  have hle : (valuesS vs rs c).1.length ≤ 6 := by have := hok.l; have := hok.six; omega
  have w0 : wrap64 ((rs.length : Int) - 1) = (rs.length : Int) - 1 := wrap_id (by omega) (by omega)
  simp only [h, ↓reduceIte, w0]
  refine ev_call (inE_eq _ _ _) ?_
  by_cases h1 : 0 ≤ k ∧ k < (rs.length : Int)
  ·have h2 : decide (0 ≤ k ∧ k ≤ (rs.length : Int) - 1) = true := decide_eq_true (by omega)
   obtain ⟨j, rfl⟩ := Int.eq_ofNat_of_zero_le h1.1
   have hj : j < rs.length := by omega
   obtain ⟨f1, f2⟩ := rule_facts hok.m hj
   simp only [h2, ↓reduceIte]
   simp only [h1, ↓reduceIte, and_self, rdR_get rs j hj]
   refine ev_bind (evaluated_ev rs[j].f0 (valuesS vs rs c).1 (by omega)) ?_
   unfold ruleV
   by_cases h3 : (evalS rs[j].f0 (valuesS vs rs c).1).2 = 0
   ·by_cases h4 : (evalS rs[j].f0 (valuesS vs rs c).1).1 = 1
    ·have h5 : ((evalS rs[j].f0 (valuesS vs rs c).1).1 != 1) = false := bne_eq_false_iff_eq.2 h4
     rw [if_pos ⟨h3, h4⟩]
     simp only [h3, h5, ↓reduceIte]
     refine ev_succ ?_
     simp only [foretellref_AfterRule.j0, ff, ↓reduceIte]
     refine ev_eq (afterRule_l0 vs rs (valuesS vs rs c).1 hle rs[j].f0 rs[j].f1 f1 (valuesS vs rs c).1.length 0 [] (by omega) rfl) ?_
     rw [List.drop_zero]
     unfold endR
     cases allVars (valuesS vs rs c).1 rs[j].f1 (valuesS vs rs c).1 0 with
     | none => rfl
     | some o => rfl
    ·have h5 : ((evalS rs[j].f0 (valuesS vs rs c).1).1 != 1) = true := bne_iff_ne.2 h4
     rw [if_neg (fun hc => h4 hc.2)]
     simp only [h3, h5, ↓reduceIte]
     refine ev_succ ?_
     simp only [foretellref_AfterRule.j0, ↓reduceIte]
     exact Ev.now _
   ·rw [if_neg (fun hc => h3 hc.1)]
    simp only [h3, ↓reduceIte]
    refine ev_succ ?_
    simp only [foretellref_AfterRule.j0, ↓reduceIte]
    exact Ev.now _
  ·have h2 : decide (0 ≤ k ∧ k ≤ (rs.length : Int) - 1) = false := decide_eq_false (by omega)
   simp only [h2, ff, ↓reduceIte]
   simp only [h1, ↓reduceIte]
   exact Ev.now _
 ·simp only [h, ↓reduceIte]
  exact Ev.now _
theorem next_l0 (vs : List PVar) (rs : List PRule) (h : modelS vs rs = 0) (env : List Int) (hl : env.length = vs.length) (d : Nat) : ∀ (i : Nat) (acc : List Int), i + d = rs.length → acc.length ≤ i →
  Ev (fun k => step_next.l0 k env acc rs (rs.length : Int) (i : Int) vs rs) (Lib.compact ((acc ++ codesS vs rs env (rs.drop i)).mergeSort fun x y => decide (x ≤ y))) := by
 have hr := (modelS_rules h).2
 have ff : ((false : Bool) = true) = False := by simp
 induction d with
 | zero =>
  intro i acc hi ha
  rw [List.drop_of_length_le (by omega)]
  have c1 : ¬ (i : Int) < (rs.length : Int) := by omega
  refine ev_succ ?_
  simp only [step_next.l0, ↓reduceIte, c1, codesS, List.append_nil]
  refine ev_call (a := acc.mergeSort fun x y => decide (x ≤ y)) (by unfold slices_Sort_int_int.f; rw [if_pos (by omega)]) ?_
  refine ev_call (a := Lib.compact (acc.mergeSort fun x y => decide (x ≤ y))) (by unfold slices_Compact_int_int.f; rw [if_pos (by rw [List.length_mergeSort]; omega)]) (Ev.now _)
 | succ d ih =>
  intro i acc hi ha
  have hil : i < rs.length := by omega
  have c1 : (i : Int) < (rs.length : Int) := by omega
  have c2 : (0 : Int) ≤ (i : Int) := Int.natCast_nonneg _
  have c3 : acc.length < 17592186044416 := by omega
  have w1 : wrap64 ((i : Int) + 1) = ((i + 1 : Nat) : Int) := by rw [wrap_id (by omega) (by omega)]; rfl
  obtain ⟨f1, f2⟩ := rule_facts h hil
  rw [List.drop_eq_getElem_cons hil, codesS]
  refine ev_succ ?_
  simp only [step_next.l0, ↓reduceIte, c1, c2, c3, w1, rdR_get rs i hil]
  refine ev_bind (after_ev vs rs rs[i] env f1 f2 hl (modelS_len h)) ?_
  cases afterV vs rs[i] env with
  | none =>
   simp only [optL, ff, ↓reduceIte]
   exact ih (i + 1) acc (by omega) (by omega)
  | some out =>
   simp only [optL, ↓reduceIte]
   refine ev_bind (code_ev vs rs out) ?_
   refine ev_eq (ih (i + 1) (acc ++ [(codeS vs rs out).1]) (by omega) (by rw [List.length_append, List.length_singleton]; omega)) ?_
   rw [List.append_assoc, List.singleton_append]
theorem upTo_nil (n : Nat) : upTo n [] = [] := by
 unfold upTo
 rw [List.filter_eq_nil_iff]
 intro x _
 simp
theorem upTo_len (n : Nat) (l : List Int) : (upTo n l).length ≤ n := by
 unfold upTo
 refine Nat.le_trans (List.length_filter_le _ _) ?_
 rw [List.length_map, List.length_range]
 exact Nat.le_refl _
theorem next_ev (vs : List PVar) (rs : List PRule) (h : modelS vs rs = 0) (env : List Int) (hl : env.length = vs.length) (hin : inB vs env) :
  Ev (fun k => step_next.f k vs rs env) (upTo (prodV vs).toNat (codesS vs rs env rs)) := by
 unfold step_next.f
 refine ev_eq (next_l0 vs rs h env hl rs.length 0 [] (by omega) (by simp)) ?_
 rw [List.drop_zero, List.nil_append]
 refine compact_sort _ _ fun x hx => ?_
 have := codesS_in h hl hin rs (rules_all h) x hx
 omega
theorem stepNext_ev (vs : List PVar) (rs : List PRule) (c : Int) : Ev (fun k => step_Next.f k vs rs c) (nextS vs rs c) := by
 unfold step_Next.f nextS
 refine ev_bind (values_ev vs rs c) ?_
 by_cases h : (valuesS vs rs c).2 = 0
 ·obtain ⟨hm, h0, h1, hv⟩ := valuesS_ok h
  obtain ⟨ho, hp⟩ := vars_ok (modelS_vars hm)
  have hin := valS_in vs c ho h0 h1
  simp only [h, ↓reduceIte]
  rw [hv]
  refine ev_bind (next_ev vs rs hm (valS vs c) (valS_len vs c) hin) ?_
  unfold behindL
  have hall : ∀ x ∈ codesS vs rs (valS vs c) rs, 0 ≤ x ∧ x < ((prodV vs).toNat : Int) := fun x hx => by
   have := codesS_in hm (valS_len vs c) hin rs (rules_all hm) x hx
   omega
  by_cases hc : codesS vs rs (valS vs c) rs = []
  ·simp only [hc, ↓reduceIte, upTo_nil, List.length_nil]
   refine Ev.now _
  ·have hne := upTo_ne hall hc
   have hln : ¬ ((upTo (prodV vs).toNat (codesS vs rs (valS vs c) rs)).length : Int) = 0 := by
    have := List.length_pos_iff.2 hne
    omega
   simp only [hc, hln, ↓reduceIte]
   exact Ev.now _
 ·simp only [h, ↓reduceIte]
  exact Ev.now _
def marks (n : Nat) (l : List Int) : List Bool := (List.range n).map fun (i : Nat) => l.any (· == (i : Int))
theorem marks_len (n : Nat) (l : List Int) : (marks n l).length = n := by simp [marks]
theorem marks_get (n : Nat) (l : List Int) (i : Nat) (h : i < (marks n l).length) : (marks n l)[i] = l.any (· == (i : Int)) := by simp [marks]
theorem marks_nil (n : Nat) : marks n [] = List.replicate n false := by
 apply List.ext_getElem
 ·simp [marks]
 ·intro i h1 h2
  rw [marks_get, List.getElem_replicate]
  rfl
theorem marks_set (n : Nat) (l : List Int) (x : Int) (h0 : 0 ≤ x) : (marks n l).set x.toNat true = marks n (l ++ [x]) := by
 apply List.ext_getElem
 ·simp [marks]
 ·intro i h1 h2
  rw [List.getElem_set, marks_get, marks_get]
  by_cases e : x.toNat = i
  ·rw [if_pos e, List.any_append]
   have : x = (i : Int) := by omega
   simp [this]
  ·rw [if_neg e, List.any_append]
   have : ¬ x = (i : Int) := by omega
   simp [this]
theorem nextOf_l1 (n : Nat) (hn : n ≤ 4096) (l : List Int) (d : Nat) : ∀ (i : Nat) (acc : List Int), i + d = n → acc.length ≤ i →
  Ev (fun k => foretellref_NextOf.l1 k (n : Int) (marks n l) acc (i : Int)) (acc ++ ((List.range' i d).map fun (j : Nat) => (j : Int)).filter (fun x => l.any (· == x)), 0) := by
 have hml := marks_len n l
 induction d with
 | zero =>
  intro i acc hi ha
  have c1 : ¬ (i : Int) < (n : Int) := by omega
  refine ev_succ ?_
  simp only [foretellref_NextOf.l1, ↓reduceIte, c1, List.range'_zero, List.map_nil, List.filter_nil, List.append_nil]
  exact Ev.now _
 | succ d ih =>
  intro i acc hi ha
  have c1 : (i : Int) < (n : Int) := by omega
  have c2 : (0 : Int) ≤ (i : Int) := Int.natCast_nonneg _
  have c3 : acc.length < 17592186044416 := by omega
  have c4 : (i : Int) < ((marks n l).length : Int) := by omega
  have w1 : wrap64 ((i : Int) + 1) = ((i + 1 : Nat) : Int) := by rw [wrap_id (by omega) (by omega)]; rfl
  have hg : rdOf false (marks n l) (i : Int) = l.any (· == (i : Int)) := by
   rw [rdOf_get false _ i (by omega), marks_get]
  rw [List.range'_succ, List.map_cons, List.filter_cons]
  refine ev_succ ?_
  simp only [foretellref_NextOf.l1, ↓reduceIte, c1, c2, c3, c4, hg, w1]
  by_cases hb : l.any (· == (i : Int)) = true
  ·simp only [hb, ↓reduceIte]
   refine ev_eq (ih (i + 1) (acc ++ [(i : Int)]) (by omega) (by rw [List.length_append, List.length_singleton]; omega)) ?_
   rw [List.append_assoc, List.singleton_append]
  ·simp only [hb, ↓reduceIte]
   exact ih (i + 1) acc (by omega) (by omega)
theorem nextOf_end (n : Nat) (hn : n ≤ 4096) (l : List Int) : Ev (fun k => foretellref_NextOf.l1 k (n : Int) (marks n l) [] 0) (upTo n l, 0) := by
 refine ev_eq (nextOf_l1 n hn l n 0 [] (by omega) (by simp)) ?_
 rw [List.nil_append, upTo, List.range_eq_range']
theorem nextOf_l0 (vs : List PVar) (rs : List PRule) (c : Int) (h : (valuesS vs rs c).2 = 0) (d : Nat) : ∀ (i : Nat) (l : List Int) (s : Bool), i + d = rs.length → (s = true ↔ l ≠ []) → (∀ x ∈ l, 0 ≤ x ∧ x < prodV vs) →
  Ev (fun k => foretellref_NextOf.l0 k c (prodV vs) (marks (prodV vs).toNat l) s (i : Int) vs rs) (if l ++ codesS vs rs (valS vs c) (rs.drop i) = [] then [c] else upTo (prodV vs).toNat (l ++ codesS vs rs (valS vs c) (rs.drop i)), 0) := by
 obtain ⟨hm, h0, h1, hv⟩ := valuesS_ok h
 obtain ⟨ho, hp⟩ := vars_ok (modelS_vars hm)
 have hin := valS_in vs c ho h0 h1
 have hp1 := prodV_pos ho
 have hr := (modelS_rules hm).2
 induction d with
 | zero =>
  intro i l s hi hs hb
  rw [List.drop_of_length_le (by omega)]
  have c1 : ¬ (i : Int) < (rs.length : Int) := by omega
  refine ev_succ ?_
  simp only [foretellref_NextOf.l0, ↓reduceIte, c1, codesS, List.append_nil]
  cases s with
  | true =>
   have hne : l ≠ [] := hs.1 rfl
   simp only [hne, ↓reduceIte]
   have := nextOf_end (prodV vs).toNat (by omega) l
   rw [show (((prodV vs).toNat : Nat) : Int) = prodV vs by omega] at this
   exact this
  | false =>
   have hne : l = [] := Classical.byContradiction fun hc => by have := hs.2 hc; cases this
   have ff : ((false : Bool) = true) = False := by simp
   simp only [hne, ff, ↓reduceIte]
   exact Ev.now _
 | succ d ih =>
  intro i l s hi hs hb
  have hil : i < rs.length := by omega
  have c1 : (i : Int) < (rs.length : Int) := by omega
  have c2 : (0 : Int) ≤ (i : Int) := Int.natCast_nonneg _
  have w1 : wrap64 ((i : Int) + 1) = ((i + 1 : Nat) : Int) := by rw [wrap_id (by omega) (by omega)]; rfl
  have ha := afterRule_ev vs rs c (i : Int)
  rw [ruleAt_eq] at ha
  unfold afterS at ha
  rw [if_pos h, if_pos ⟨c2, c1⟩, rdR_get rs i hil, hv] at ha
  rw [List.drop_eq_getElem_cons hil, codesS]
  refine ev_succ ?_
  simp only [foretellref_NextOf.l0, ↓reduceIte, c1, w1]
  refine ev_bind ha ?_
  cases he : afterV vs rs[i] (valS vs c) with
  | none =>
   have e11 : ¬ (11 : Int) = 0 := by decide
   simp only [e11, ↓reduceIte]
   exact ih (i + 1) l s (by omega) hs hb
  | some out =>
   obtain ⟨_, n, hn, n0, n1⟩ := afterV_ok hm (rules_all hm _ (List.getElem_mem hil)) (valS_len vs c) hin he
   have c5 : n < ((marks (prodV vs).toNat l).length : Int) := by rw [marks_len]; omega
   simp only [hn, n0, c5, ↓reduceIte]
   rw [marks_set _ _ _ n0]
   refine ev_eq (ih (i + 1) (l ++ [n]) true (by omega) (by simp) (fun x hx => ?_)) ?_
   ·rcases List.mem_append.1 hx with hx | hx
    ·exact hb x hx
    ·rw [List.mem_singleton.1 hx]; exact ⟨n0, n1⟩
   ·rw [List.append_assoc, List.singleton_append]
theorem nextOf_ev (vs : List PVar) (rs : List PRule) (c : Int) : Ev (fun k => foretellref_NextOf.f k vs rs c) (nextS vs rs c) := by
 unfold foretellref_NextOf.f nextS
 refine ev_bind (stateCount_ev vs rs) ?_
 by_cases hm : modelS vs rs = 0
 ·obtain ⟨ho, hp⟩ := vars_ok (modelS_vars hm)
  have hp1 := prodV_pos ho
  have w1 : wrap64 (prodV vs - 1) = prodV vs - 1 := wrap_id (by omega) (by omega)
  unfold countS
  rw [if_pos hm]
  simp only [↓reduceIte, w1]
  refine ev_call (inE_eq _ _ _) ?_
  have ff : ((false : Bool) = true) = False := by simp
  by_cases hc : 0 ≤ c ∧ c < prodV vs
  ·have h2 : decide (0 ≤ c ∧ c ≤ prodV vs - 1) = true := decide_eq_true (by omega)
   have hv : (valuesS vs rs c).2 = 0 := by
    unfold valuesS
    rw [if_pos hm, if_neg (by omega)]
   have c1 : 0 ≤ prodV vs := by omega
   have c2 : (prodV vs).toNat ≤ 281474976710656 := by omega
   simp only [h2, hv, c1, c2, ↓reduceIte]
   rw [← marks_nil]
   refine ev_eq (nextOf_l0 vs rs c hv rs.length 0 [] false (by omega) (by simp) (fun x hx => (nomatch hx))) ?_
   rw [List.drop_zero, List.nil_append, behindL]
  ·have h2 : decide (0 ≤ c ∧ c ≤ prodV vs - 1) = false := decide_eq_false (by omega)
   have hv : (valuesS vs rs c).2 = 9 := by
    unfold valuesS
    rw [if_pos hm, if_pos (by omega)]
   have e9 : ¬ (9 : Int) = 0 := by decide
   simp only [h2, hv, ff, e9, ↓reduceIte]
   exact Ev.now _
 ·have hv : (valuesS vs rs c).2 = modelS vs rs := by
   unfold valuesS
   rw [if_neg hm]
  unfold countS
  rw [if_neg hm]
  simp only [hv, hm, ↓reduceIte]
  exact Ev.now _
def firstS (vs : List PVar) (rs : List PRule) : Int × Int := codeS vs rs (vs.map (·.f3))
theorem first_l0 (vs : List PVar) (rs : List PRule) (hv : vs.length ≤ 3518437208883) (d : Nat) : ∀ i : Nat, i + d = vs.length → Ev (fun k => model_First.l0 k ((vs.take i).map (·.f3)) vs (vs.length : Int) i vs rs) (firstS vs rs) := by
 induction d with
 | zero =>
  intro i hi
  rw [List.take_of_length_le (by omega)]
  have c1 : ¬ (i : Int) < (vs.length : Int) := by omega
  refine ev_succ ?_
  simp only [model_First.l0, ↓reduceIte, c1]
  exact ev_bind (code_ev vs rs _) (Ev.now _)
 | succ d ih =>
  intro i hi
  have hil : i < vs.length := by omega
  have c1 : (i : Int) < (vs.length : Int) := by omega
  have c2 : (0 : Int) ≤ (i : Int) := by omega
  have c3 : ((vs.take i).map (·.f3)).length < 17592186044416 := by rw [List.length_map, List.length_take]; omega
  have w1 : wrap64 ((i : Int) + 1) = ((i + 1 : Nat) : Int) := by rw [wrap_id (by omega) (by omega)]; rfl
  have h := ih (i + 1) (by omega)
  rw [List.take_succ_eq_append_getElem hil, List.map_append] at h
  refine ev_succ ?_
  simp only [model_First.l0, ↓reduceIte, c1, c2, c3, w1, rdV_get vs i hil]
  exact h
theorem first_ev (vs : List PVar) (rs : List PRule) (hv : vs.length ≤ 3518437208883) : Ev (fun k => model_First.f k vs rs) (firstS vs rs) := first_l0 vs rs hv vs.length 0 (by omega)
theorem firstCode_l0 (vs : List PVar) (rs : List PRule) (hv : vs.length ≤ 3518437208883) (d : Nat) : ∀ i : Nat, i + d = vs.length → Ev (fun k => foretellref_FirstCode.l0 k ((vs.take i).map (·.f3)) i vs rs) (firstS vs rs) := by
 induction d with
 | zero =>
  intro i hi
  rw [List.take_of_length_le (by omega)]
  have c1 : ¬ (i : Int) < (vs.length : Int) := by omega
  refine ev_succ ?_
  simp only [foretellref_FirstCode.l0, ↓reduceIte, c1]
  exact ev_bind (codeOf_ev vs rs _) (Ev.now _)
 | succ d ih =>
  intro i hi
  have hil : i < vs.length := by omega
  have c1 : (i : Int) < (vs.length : Int) := by omega
  have c2 : (0 : Int) ≤ (i : Int) := by omega
  have c3 : ((vs.take i).map (·.f3)).length < 17592186044416 := by rw [List.length_map, List.length_take]; omega
  have w1 : wrap64 ((i : Int) + 1) = ((i + 1 : Nat) : Int) := by rw [wrap_id (by omega) (by omega)]; rfl
  have h := ih (i + 1) (by omega)
  rw [List.take_succ_eq_append_getElem hil, List.map_append] at h
  refine ev_succ ?_
  simp only [foretellref_FirstCode.l0, ↓reduceIte, c1, c2, c3, w1, rdV_get vs i hil]
  exact h
theorem firstCode_ev (vs : List PVar) (rs : List PRule) (hv : vs.length ≤ 3518437208883) : Ev (fun k => foretellref_FirstCode.f k vs rs) (firstS vs rs) := firstCode_l0 vs rs hv vs.length 0 (by omega)
end Go.Proofs.YtbekikafhpdehaaDoor.Pure
