import Derived.Test.YtgdijfhdpgdanaaGreatDoorKProductBehindsG46
import Derived.Test.YtgdijfhdpgdanaaGreatDoorKProductBehindsG47
import Derived.Test.YtgdijfhdpgdanaaGreatDoorKProductBehindsG40
import Derived.Test.YtgdijfhdpgdanaaGreatDoorKProductBehindsG30
namespace Go.Proofs.YtgdijfhdpgdanaaGreatDoor.Pure
open Go.RowKit Go.Proofs.YtgdijfhdpgdanaaGreatDoor Go.Proofs.YtgdijfhdpgdanaaGreatDoor.B Go.Proofs.YtgdijfhdpgdanaaGreatDoor.Base Go.Proofs.YtgdijfhdpgdanaaGreatDoorW.PrintWords Go.Proofs.YtgdijfhdpgdanaaGreatDoorW.PrintLast Go.Proofs.YtgdijfhdpgdanaaGreatDoorW.PrintMore
set_option linter.unusedVariables false
set_option linter.unusedSimpArgs false
theorem applyS_in (vs : List PVar) (env : List Int) : ∀ (ss : List PSet) (out o : List Int), (∀ s ∈ ss, 0 ≤ s.f0 ∧ s.f0 < (vs.length : Int)) → out.length = vs.length → inB vs out → applyS vs env ss out = some o → inB vs o
 | [], out, o, _, _, hb, h => by
  simp only [applyS, Option.some.injEq] at h
  rw [← h]; exact hb
 | s :: ss, out, o, hr, hl, hb, h => by
  unfold applyS at h
  split at h
  ·rename_i hc
   refine applyS_in vs env ss _ o (fun u hu => hr u (by simp [hu])) (by rw [List.length_set]; exact hl) ?_ h
   have hs := hr s (by simp)
   intro i hi g
   rw [List.getElem_set]
   by_cases e : s.f0.toNat = i
   ·rw [if_pos e]
    have e2 : s.f0 = (i : Int) := by omega
    rw [e2, rdV_get vs i hi] at hc
    exact hc.2
   ·rw [if_neg e]
    exact hb i hi (by rw [List.length_set] at g; exact g)
  ·cases h
theorem afterV_ok {vs : List PVar} {rs : List PRule} (h : modelS vs rs = 0) {r : PRule} {env out : List Int} (hr : ruleS r.f0 r.f1 (vs.length : Int) = 0) (hl : env.length = vs.length) (hin : inB vs env) (ha : afterV vs r env = some out) :
  out.length = vs.length ∧ ∃ n, codeS vs rs out = (n, 0) ∧ 0 ≤ n ∧ n < prodV vs := by
 obtain ⟨hg, hok⟩ := ruleS_ok hr
 unfold afterV at ha
 split at ha
 ·have hlen := (applyS_len vs env r.f1 env out ha).trans hl
  have hb := applyS_in vs env r.f1 env out hok.ran hl hin ha
  obtain ⟨n, hn⟩ := encR_in vs out hlen hb
  obtain ⟨ho, hp⟩ := vars_ok (modelS_vars h)
  refine ⟨hlen, n, ?_, encR_bd vs out ho hlen n hn⟩
  unfold codeS
  rw [if_pos h, if_pos hlen, hn]
  simp [encP]
 ·cases ha
def codesS (vs : List PVar) (rs : List PRule) (env : List Int) : List PRule → List Int
 | [] => []
 | r :: q => match afterV vs r env with | none => codesS vs rs env q | some out => (codeS vs rs out).1 :: codesS vs rs env q
theorem codesS_in {vs : List PVar} {rs : List PRule} (h : modelS vs rs = 0) {env : List Int} (hl : env.length = vs.length) (hin : inB vs env) : ∀ q : List PRule, (∀ r ∈ q, ruleS r.f0 r.f1 (vs.length : Int) = 0) → ∀ x ∈ codesS vs rs env q, 0 ≤ x ∧ x < prodV vs
 | [], _, x, hx => (nomatch hx)
 | r :: q, hq, x, hx => by
  unfold codesS at hx
  split at hx
  ·exact codesS_in h hl hin q (fun u hu => hq u (by simp [hu])) x hx
  ·rename_i out ha
   obtain ⟨_, n, hn, h0, h1⟩ := afterV_ok h (hq r (by simp)) hl hin ha
   rcases List.mem_cons.1 hx with e | hx
   ·rw [e, hn]; exact ⟨h0, h1⟩
   ·exact codesS_in h hl hin q (fun u hu => hq u (by simp [hu])) x hx
theorem rules_all {vs : List PVar} {rs : List PRule} (h : modelS vs rs = 0) : ∀ r ∈ rs, ruleS r.f0 r.f1 (vs.length : Int) = 0 := by
 intro r hr
 obtain ⟨k, hk, rfl⟩ := List.mem_iff_getElem.1 hr
 exact rulesS_at _ rs k hk (modelS_rules h).1
def behindL (vs : List PVar) (rs : List PRule) (c : Int) : List Int :=
 if codesS vs rs (valS vs c) rs = [] then [c] else upTo (prodV vs).toNat (codesS vs rs (valS vs c) rs)
def nextS (vs : List PVar) (rs : List PRule) (c : Int) : List Int × Int := if (valuesS vs rs c).2 = 0 then (behindL vs rs c, 0) else ([], (valuesS vs rs c).2)
theorem valuesS_ok {vs : List PVar} {rs : List PRule} {c : Int} (h : (valuesS vs rs c).2 = 0) : modelS vs rs = 0 ∧ 0 ≤ c ∧ c < prodV vs ∧ (valuesS vs rs c).1 = valS vs c := by
 unfold valuesS at h ⊢
 by_cases hm : modelS vs rs = 0
 ·rw [if_pos hm] at h ⊢
  by_cases hc : c < 0 ∨ prodV vs ≤ c
  ·rw [if_pos hc] at h; cases h
  ·rw [if_neg hc]
   exact ⟨hm, by omega, by omega, rfl⟩
 ·rw [if_neg hm] at h; exact absurd h hm
theorem upTo_ne {n : Nat} {l : List Int} (hl : ∀ x ∈ l, 0 ≤ x ∧ x < (n : Int)) (h : l ≠ []) : upTo n l ≠ [] := by
 obtain ⟨x, hx⟩ := List.exists_mem_of_ne_nil l h
 intro e
 have := (upTo_mem n l x).2 ⟨hl x hx, hx⟩
 rw [e] at this
 simp at this
def optL (o : Option (List Int)) : List Int × Bool := match o with | none => ([], false) | some x => (x, true)
theorem after_l0 (vs : List PVar) (rs : List PRule) (env : List Int) (ss : List PSet) (hs : ss.length ≤ 6) (hr : ∀ s ∈ ss, 0 ≤ s.f0 ∧ s.f0 < (vs.length : Int)) (d : Nat) : ∀ (i : Nat) (out : List Int), i + d = ss.length → out.length = vs.length →
  Ev (fun k => zAy.l0 k env out ss (ss.length : Int) (i : Int) vs rs) (optL (applyS vs env (ss.drop i) out)) := by
 induction d with
 | zero =>
  intro i out hi ho
  rw [List.drop_of_length_le (by omega)]
  have c1 : ¬ (i : Int) < (ss.length : Int) := by omega
  refine ev_succ ?_
  simp only [zAy.l0, ↓reduceIte, c1]
  exact Ev.now _
 | succ d ih =>
  intro i out hi ho
  have hil : i < ss.length := by omega
  have c1 : (i : Int) < (ss.length : Int) := by omega
  have c2 : (0 : Int) ≤ (i : Int) := Int.natCast_nonneg _
  have w1 : wrap64 ((i : Int) + 1) = ((i + 1 : Nat) : Int) := by rw [wrap_id (by omega) (by omega)]; rfl
  have hsr := hr _ (List.getElem_mem hil)
  have c3 : ss[i].f0 < (out.length : Int) := by omega
  have he : zBN.f ss[i].f1 env = some (evalS ss[i].f1 env) := rfl
  rw [List.drop_eq_getElem_cons hil, applyS]
  refine ev_succ ?_
  simp only [zAy.l0, ↓reduceIte, c1, c2, rdS_get ss i hil, he, x_bind, hsr.1, hsr.2, c3, w1]
  by_cases h1 : (evalS ss[i].f1 env).2 = 0
  ·simp only [h1, ↓reduceIte, true_and]
   by_cases h2 : (evalS ss[i].f1 env).1 < (zAO vs ss[i].f0).f1
   ·have h4 : ¬ ((zAO vs ss[i].f0).f1 ≤ (evalS ss[i].f1 env).1 ∧ (evalS ss[i].f1 env).1 ≤ (zAO vs ss[i].f0).f2) := by omega
    simp only [h2, h4, ↓reduceIte]
    exact Ev.now _
   ·by_cases h3 : (evalS ss[i].f1 env).1 > (zAO vs ss[i].f0).f2
    ·have h4 : ¬ ((zAO vs ss[i].f0).f1 ≤ (evalS ss[i].f1 env).1 ∧ (evalS ss[i].f1 env).1 ≤ (zAO vs ss[i].f0).f2) := by omega
     simp only [h2, h3, h4, ↓reduceIte]
     exact Ev.now _
    ·have h4 : (zAO vs ss[i].f0).f1 ≤ (evalS ss[i].f1 env).1 ∧ (evalS ss[i].f1 env).1 ≤ (zAO vs ss[i].f0).f2 := by omega
     simp only [h2, h3, h4, ↓reduceIte, and_self]
     exact ih (i + 1) _ (by omega) (by rw [List.length_set]; exact ho)
  ·simp only [h1, ↓reduceIte, false_and]
   exact Ev.now _
theorem after_ev (vs : List PVar) (rs : List PRule) (r : PRule) (env : List Int) (hs : r.f1.length ≤ 6) (hr : ∀ s ∈ r.f1, 0 ≤ s.f0 ∧ s.f0 < (vs.length : Int)) (hl : env.length = vs.length) (h6 : vs.length ≤ 6) :
  Ev (fun k => zAy.f k vs rs r.f0 r.f1 env) (optL (afterV vs r env)) := by
 have he : zBN.f r.f0 env = some (evalS r.f0 env) := rfl
 have hc : zBE.f env = some env := by unfold zBE.f; rw [if_pos (by omega)]
 have ff : ((false : Bool) = true) = False := by simp
 unfold zAy.f afterV
 simp only [he, x_bind]
 by_cases h1 : (evalS r.f0 env).2 = 0
 ·by_cases h2 : (evalS r.f0 env).1 = 0
  ·have h3 : ((evalS r.f0 env).1 == 0) = true := beq_iff_eq.2 h2
   have h4 : ¬ ((evalS r.f0 env).2 = 0 ∧ (evalS r.f0 env).1 ≠ 0) := fun h => h.2 h2
   rw [if_neg h4]
   simp only [h1, h3, ↓reduceIte]
   refine ev_succ ?_
   simp only [zAy.j0, ↓reduceIte]
   exact Ev.now _
  ·have h3 : ((evalS r.f0 env).1 == 0) = false := beq_eq_false_iff_ne.2 h2
   rw [if_pos ⟨h1, h2⟩]
   simp only [h1, h3, ↓reduceIte]
   refine ev_succ ?_
   simp only [zAy.j0, ff, ↓reduceIte, hc, x_bind]
   exact after_l0 vs rs env r.f1 hs hr r.f1.length 0 env (by omega) hl
 ·have h4 : ¬ ((evalS r.f0 env).2 = 0 ∧ (evalS r.f0 env).1 ≠ 0) := fun h => h1 h.1
  rw [if_neg h4]
  simp only [h1, ↓reduceIte]
  refine ev_succ ?_
  simp only [zAy.j0, ↓reduceIte]
  exact Ev.now _
structure AtOK (vs : List PVar) (rs : List PRule) (c : Int) : Prop where
 m : modelS vs rs = 0
 l : (valuesS vs rs c).1.length = vs.length
 six : vs.length ≤ 6
theorem at_ok {vs : List PVar} {rs : List PRule} {c : Int} (h : (valuesS vs rs c).2 = 0) : AtOK vs rs c := by
 unfold valuesS at h
 by_cases hm : modelS vs rs = 0
 ·refine ⟨hm, ?_, modelS_len hm⟩
  unfold valuesS
  rw [if_pos hm] at h ⊢
  by_cases hc : c < 0 ∨ prodV vs ≤ c
  ·rw [if_pos hc] at h; cases h
  ·rw [if_neg hc]; exact valS_len vs c
 ·rw [if_neg hm] at h; exact absurd h hm
theorem rule_facts {vs : List PVar} {rs : List PRule} (h : modelS vs rs = 0) {j : Nat} (hj : j < rs.length) : rs[j].f1.length ≤ 6 ∧ ∀ s ∈ rs[j].f1, 0 ≤ s.f0 ∧ s.f0 < (vs.length : Int) := by
 have hr := rulesS_at (vs.length : Int) rs j hj (modelS_rules h).1
 refine ⟨?_, (ruleS_ok hr).2.ran⟩
 unfold ruleS at hr
 split at hr
 ·cases hr
 ·omega
theorem afterRule_l1 (vs : List PVar) (rs : List PRule) (env : List Int) (h6 : env.length ≤ 6) (g : List POp) (ss : List PSet) (hs : ss.length ≤ 6) (acc : List Int) (ha : acc.length ≤ 6) (i : Nat) (hi : i < env.length) (R : Int × Int)
  (hR : ∀ y, Ev (fun k => zAK.l0 k env (acc ++ [y]) ((i + 1 : Nat) : Int) vs rs g ss) (if (oneVar env (i : Int) ss y).isSome = true then R else R) → True) (G : Int → Int × Int)
  (hG : ∀ y, Ev (fun k => zAK.l0 k env (acc ++ [y]) ((i + 1 : Nat) : Int) vs rs g ss) (G y)) (d : Nat) : ∀ (j : Nat) (x : Int), j + d = ss.length →
  Ev (fun k => zAK.l1 k env acc (i : Int) x (j : Int) vs rs g ss) (match oneVar env (i : Int) (ss.drop j) x with | none => (0, 11) | some y => G y) := by
 have c4 : acc.length < 17592186044416 := by omega
 have w2 : wrap64 ((i : Int) + 1) = ((i + 1 : Nat) : Int) := by rw [wrap_id (by omega) (by omega)]; rfl
 induction d with
 | zero =>
  intro j x hj
  rw [List.drop_of_length_le (by omega)]
  have c1 : ¬ (j : Int) < (ss.length : Int) := by omega
  refine ev_succ ?_
  simp only [zAK.l1, ↓reduceIte, c1, c4, w2, oneVar]
  exact hG x
 | succ d ih =>
  intro j x hj
  have hjl : j < ss.length := by omega
  have c1 : (j : Int) < (ss.length : Int) := by omega
  have c2 : (0 : Int) ≤ (j : Int) := Int.natCast_nonneg _
  have w1 : wrap64 ((j : Int) + 1) = ((j + 1 : Nat) : Int) := by rw [wrap_id (by omega) (by omega)]; rfl
  rw [List.drop_eq_getElem_cons hjl, oneVar]
  refine ev_succ ?_
  simp only [zAK.l1, ↓reduceIte, c1, c2, rdS_get ss j hjl, w1]
  by_cases h1 : ss[j].f0 = (i : Int)
  ·simp only [h1, ↓reduceIte]
   refine ev_bind (evaluated_ev ss[j].f1 env (by omega)) ?_
   by_cases h2 : (evalS ss[j].f1 env).2 = 0
   ·simp only [h2, ↓reduceIte]
    exact ih (j + 1) _ (by omega)
   ·simp only [h2, ↓reduceIte]
    exact Ev.now _
  ·simp only [h1, ↓reduceIte]
   exact ih (j + 1) x (by omega)
def endR (vs : List PVar) (rs : List PRule) (o : Option (List Int)) : Int × Int := match o with | none => (0, 11) | some out => if (codeS vs rs out).2 = 0 then ((codeS vs rs out).1, 0) else (0, 11)
theorem afterRule_l0 (vs : List PVar) (rs : List PRule) (env : List Int) (h6 : env.length ≤ 6) (g : List POp) (ss : List PSet) (hs : ss.length ≤ 6) (d : Nat) : ∀ (i : Nat) (acc : List Int), i + d = env.length → acc.length = i →
  Ev (fun k => zAK.l0 k env acc (i : Int) vs rs g ss) (endR vs rs ((allVars env ss (env.drop i) i).map (acc ++ ·))) := by
 induction d with
 | zero =>
  intro i acc hi ha
  rw [List.drop_of_length_le (by omega)]
  have c1 : ¬ (i : Int) < (env.length : Int) := by omega
  refine ev_succ ?_
  simp only [zAK.l0, ↓reduceIte, c1]
  refine ev_bind (codeOf_ev vs rs acc) ?_
  simp only [allVars, Option.map_some, List.append_nil, endR]
  by_cases h : (codeS vs rs acc).2 = 0
  ·simp only [h, ↓reduceIte]; exact Ev.now _
  ·simp only [h, ↓reduceIte]; exact Ev.now _
 | succ d ih =>
  intro i acc hi ha
  have hil : i < env.length := by omega
  have c1 : (i : Int) < (env.length : Int) := by omega
  have c2 : (0 : Int) ≤ (i : Int) := Int.natCast_nonneg _
  have hg : rd env (i : Int) = env[i] := rd_get _ _ hil
  rw [List.drop_eq_getElem_cons hil, allVars]
  refine ev_succ ?_
  simp only [zAK.l0, ↓reduceIte, c1, c2, hg]
  refine ev_eq (afterRule_l1 vs rs env h6 g ss hs acc (by omega) i hil (0, 0) (fun _ _ => trivial) (fun y => endR vs rs ((allVars env ss (env.drop (i + 1)) (i + 1)).map ((acc ++ [y]) ++ ·))) (fun y => ih (i + 1) (acc ++ [y]) (by omega) (by rw [List.length_append, ha]; rfl)) ss.length 0 env[i] (by omega)) ?_
  rw [List.drop_zero]
  cases oneVar env (i : Int) ss env[i] with
  | none => rfl
  | some y =>
   simp only
   cases allVars env ss (env.drop (i + 1)) (i + 1) with
   | none => rfl
   | some o => simp only [Option.map_some, List.append_assoc, List.singleton_append]
theorem afterRule_ev (vs : List PVar) (rs : List PRule) (c k : Int) : Ev (fun q => zAK.f q vs rs c k) (ruleAt vs rs c k) := by
 have ff : ((false : Bool) = true) = False := by simp
 unfold zAK.f ruleAt
 refine ev_bind (valuesOf_ev vs rs c) ?_
 by_cases h : (valuesS vs rs c).2 = 0
 ·have hok := at_ok h
  have hrl := (modelS_rules hok.m).2
  have hle : (valuesS vs rs c).1.length ≤ 6 := by have := hok.l; have := hok.six; omega
  have w0 : wrap64 ((rs.length : Int) - 1) = (rs.length : Int) - 1 := wrap_id (by omega) (by omega)
  simp only [h, ↓reduceIte, w0]
  refine ev_call (inE_eq _ _ _) ?_
  by_cases h1 : 0 ≤ k ∧ k < (rs.length : Int)
  ·have h2 : decide (0 ≤ k ∧ k ≤ (rs.length : Int) - 1) = true := decide_eq_true (by omega)
   obtain ⟨j, rfl⟩ := Int.eq_ofNat_of_zero_le h1.1
   have hj : j < rs.length := by omega
   obtain ⟨f1, f2⟩ := rule_facts hok.m hj
   simp only [h2, ↓reduceIte]
   simp only [h1, ↓reduceIte, and_self, rdR_get rs j hj]
   refine ev_bind (evaluated_ev rs[j].f0 (valuesS vs rs c).1 (by omega)) ?_
   unfold ruleV
   by_cases h3 : (evalS rs[j].f0 (valuesS vs rs c).1).2 = 0
   ·by_cases h4 : (evalS rs[j].f0 (valuesS vs rs c).1).1 = 1
    ·have h5 : ((evalS rs[j].f0 (valuesS vs rs c).1).1 != 1) = false := bne_eq_false_iff_eq.2 h4
     rw [if_pos ⟨h3, h4⟩]
     simp only [h3, h5, ↓reduceIte]
     refine ev_succ ?_
     simp only [zAK.j0, ff, ↓reduceIte]
     refine ev_eq (afterRule_l0 vs rs (valuesS vs rs c).1 hle rs[j].f0 rs[j].f1 f1 (valuesS vs rs c).1.length 0 [] (by omega) rfl) ?_
     rw [List.drop_zero]
     unfold endR
     cases allVars (valuesS vs rs c).1 rs[j].f1 (valuesS vs rs c).1 0 with
     | none => rfl
     | some o => rfl
    ·have h5 : ((evalS rs[j].f0 (valuesS vs rs c).1).1 != 1) = true := bne_iff_ne.2 h4
     rw [if_neg (fun hc => h4 hc.2)]
     simp only [h3, h5, ↓reduceIte]
     refine ev_succ ?_
     simp only [zAK.j0, ↓reduceIte]
     exact Ev.now _
   ·rw [if_neg (fun hc => h3 hc.1)]
    simp only [h3, ↓reduceIte]
    refine ev_succ ?_
    simp only [zAK.j0, ↓reduceIte]
    exact Ev.now _
  ·have h2 : decide (0 ≤ k ∧ k ≤ (rs.length : Int) - 1) = false := decide_eq_false (by omega)
   simp only [h2, ff, ↓reduceIte]
   simp only [h1, ↓reduceIte]
   exact Ev.now _
 ·simp only [h, ↓reduceIte]
  exact Ev.now _
theorem next_l0 (vs : List PVar) (rs : List PRule) (h : modelS vs rs = 0) (env : List Int) (hl : env.length = vs.length) (d : Nat) : ∀ (i : Nat) (acc : List Int), i + d = rs.length → acc.length ≤ i →
  Ev (fun k => zA8.l0 k env acc rs (rs.length : Int) (i : Int) vs rs) (Lib.compact ((acc ++ codesS vs rs env (rs.drop i)).mergeSort fun x y => decide (x ≤ y))) := by
 have hr := (modelS_rules h).2
 have ff : ((false : Bool) = true) = False := by simp
 induction d with
 | zero =>
  intro i acc hi ha
  rw [List.drop_of_length_le (by omega)]
  have c1 : ¬ (i : Int) < (rs.length : Int) := by omega
  refine ev_succ ?_
  simp only [zA8.l0, ↓reduceIte, c1, codesS, List.append_nil]
  refine ev_call (a := acc.mergeSort fun x y => decide (x ≤ y)) (by unfold zBI.f; rw [if_pos (by omega)]) ?_
  refine ev_call (a := Lib.compact (acc.mergeSort fun x y => decide (x ≤ y))) (by unfold zBF.f; rw [if_pos (by rw [List.length_mergeSort]; omega)]) (Ev.now _)
 | succ d ih =>
  intro i acc hi ha
  have hil : i < rs.length := by omega
  have c1 : (i : Int) < (rs.length : Int) := by omega
  have c2 : (0 : Int) ≤ (i : Int) := Int.natCast_nonneg _
  have c3 : acc.length < 17592186044416 := by omega
  have w1 : wrap64 ((i : Int) + 1) = ((i + 1 : Nat) : Int) := by rw [wrap_id (by omega) (by omega)]; rfl
  obtain ⟨f1, f2⟩ := rule_facts h hil
  rw [List.drop_eq_getElem_cons hil, codesS]
  refine ev_succ ?_
  simp only [zA8.l0, ↓reduceIte, c1, c2, c3, w1, rdR_get rs i hil]
  refine ev_bind (after_ev vs rs rs[i] env f1 f2 hl (modelS_len h)) ?_
  cases afterV vs rs[i] env with
  | none =>
   simp only [optL, ff, ↓reduceIte]
   exact ih (i + 1) acc (by omega) (by omega)
  | some out =>
   simp only [optL, ↓reduceIte]
   refine ev_bind (code_ev vs rs out) ?_
   refine ev_eq (ih (i + 1) (acc ++ [(codeS vs rs out).1]) (by omega) (by rw [List.length_append, List.length_singleton]; omega)) ?_
   rw [List.append_assoc, List.singleton_append]
theorem upTo_nil (n : Nat) : upTo n [] = [] := by
 unfold upTo
 rw [List.filter_eq_nil_iff]
 intro x _
 simp
theorem upTo_len (n : Nat) (l : List Int) : (upTo n l).length ≤ n := by
 unfold upTo
 refine Nat.le_trans (List.length_filter_le _ _) ?_
 rw [List.length_map, List.length_range]
 exact Nat.le_refl _
theorem next_ev (vs : List PVar) (rs : List PRule) (h : modelS vs rs = 0) (env : List Int) (hl : env.length = vs.length) (hin : inB vs env) :
  Ev (fun k => zA8.f k vs rs env) (upTo (prodV vs).toNat (codesS vs rs env rs)) := by
 unfold zA8.f
 refine ev_eq (next_l0 vs rs h env hl rs.length 0 [] (by omega) (by simp)) ?_
 rw [List.drop_zero, List.nil_append]
 refine compact_sort _ _ fun x hx => ?_
 have := codesS_in h hl hin rs (rules_all h) x hx
 omega
theorem stepNext_ev (vs : List PVar) (rs : List PRule) (c : Int) : Ev (fun k => zBL.f k vs rs c) (nextS vs rs c) := by
 unfold zBL.f nextS
 refine ev_bind (values_ev vs rs c) ?_
 by_cases h : (valuesS vs rs c).2 = 0
 ·obtain ⟨hm, h0, h1, hv⟩ := valuesS_ok h
  obtain ⟨ho, hp⟩ := vars_ok (modelS_vars hm)
  have hin := valS_in vs c ho h0 h1
  simp only [h, ↓reduceIte]
  rw [hv]
  refine ev_bind (next_ev vs rs hm (valS vs c) (valS_len vs c) hin) ?_
  unfold behindL
  have hall : ∀ x ∈ codesS vs rs (valS vs c) rs, 0 ≤ x ∧ x < ((prodV vs).toNat : Int) := fun x hx => by
   have := codesS_in hm (valS_len vs c) hin rs (rules_all hm) x hx
   omega
  by_cases hc : codesS vs rs (valS vs c) rs = []
  ·simp only [hc, ↓reduceIte, upTo_nil, List.length_nil]
   refine Ev.now _
  ·have hne := upTo_ne hall hc
   have hln : ¬ ((upTo (prodV vs).toNat (codesS vs rs (valS vs c) rs)).length : Int) = 0 := by
    have := List.length_pos_iff.2 hne
    omega
   simp only [hc, hln, ↓reduceIte]
   exact Ev.now _
 ·simp only [h, ↓reduceIte]
  exact Ev.now _
def marks (n : Nat) (l : List Int) : List Bool := (List.range n).map fun (i : Nat) => l.any (· == (i : Int))
theorem marks_len (n : Nat) (l : List Int) : (marks n l).length = n := by simp [marks]
theorem marks_get (n : Nat) (l : List Int) (i : Nat) (h : i < (marks n l).length) : (marks n l)[i] = l.any (· == (i : Int)) := by simp [marks]
theorem marks_nil (n : Nat) : marks n [] = List.replicate n false := by
 apply List.ext_getElem
 ·simp [marks]
 ·intro i h1 h2
  rw [marks_get, List.getElem_replicate]
  rfl
theorem marks_set (n : Nat) (l : List Int) (x : Int) (h0 : 0 ≤ x) : (marks n l).set x.toNat true = marks n (l ++ [x]) := by
 apply List.ext_getElem
 ·simp [marks]
 ·intro i h1 h2
  rw [List.getElem_set, marks_get, marks_get]
  by_cases e : x.toNat = i
  ·rw [if_pos e, List.any_append]
   have : x = (i : Int) := by omega
   simp [this]
  ·rw [if_neg e, List.any_append]
   have : ¬ x = (i : Int) := by omega
   simp [this]
theorem nextOf_l1 (n : Nat) (hn : n ≤ 4096) (l : List Int) (d : Nat) : ∀ (i : Nat) (acc : List Int), i + d = n → acc.length ≤ i →
  Ev (fun k => zAS.l1 k (n : Int) (marks n l) acc (i : Int)) (acc ++ ((List.range' i d).map fun (j : Nat) => (j : Int)).filter (fun x => l.any (· == x)), 0) := by
 have hml := marks_len n l
 induction d with
 | zero =>
  intro i acc hi ha
  have c1 : ¬ (i : Int) < (n : Int) := by omega
  refine ev_succ ?_
  simp only [zAS.l1, ↓reduceIte, c1, List.range'_zero, List.map_nil, List.filter_nil, List.append_nil]
  exact Ev.now _
 | succ d ih =>
  intro i acc hi ha
  have c1 : (i : Int) < (n : Int) := by omega
  have c2 : (0 : Int) ≤ (i : Int) := Int.natCast_nonneg _
  have c3 : acc.length < 17592186044416 := by omega
  have c4 : (i : Int) < ((marks n l).length : Int) := by omega
  have w1 : wrap64 ((i : Int) + 1) = ((i + 1 : Nat) : Int) := by rw [wrap_id (by omega) (by omega)]; rfl
  have hg : rdOf false (marks n l) (i : Int) = l.any (· == (i : Int)) := by
   rw [rdOf_get false _ i (by omega), marks_get]
  rw [List.range'_succ, List.map_cons, List.filter_cons]
  refine ev_succ ?_
  simp only [zAS.l1, ↓reduceIte, c1, c2, c3, c4, hg, w1]
  by_cases hb : l.any (· == (i : Int)) = true
  ·simp only [hb, ↓reduceIte]
   refine ev_eq (ih (i + 1) (acc ++ [(i : Int)]) (by omega) (by rw [List.length_append, List.length_singleton]; omega)) ?_
   rw [List.append_assoc, List.singleton_append]
  ·simp only [hb, ↓reduceIte]
   exact ih (i + 1) acc (by omega) (by omega)
theorem nextOf_end (n : Nat) (hn : n ≤ 4096) (l : List Int) : Ev (fun k => zAS.l1 k (n : Int) (marks n l) [] 0) (upTo n l, 0) := by
 refine ev_eq (nextOf_l1 n hn l n 0 [] (by omega) (by simp)) ?_
 rw [List.nil_append, upTo, List.range_eq_range']
theorem nextOf_l0 (vs : List PVar) (rs : List PRule) (c : Int) (h : (valuesS vs rs c).2 = 0) (d : Nat) : ∀ (i : Nat) (l : List Int) (s : Bool), i + d = rs.length → (s = true ↔ l ≠ []) → (∀ x ∈ l, 0 ≤ x ∧ x < prodV vs) →
  Ev (fun k => zAS.l0 k c (prodV vs) (marks (prodV vs).toNat l) s (i : Int) vs rs) (if l ++ codesS vs rs (valS vs c) (rs.drop i) = [] then [c] else upTo (prodV vs).toNat (l ++ codesS vs rs (valS vs c) (rs.drop i)), 0) := by
 obtain ⟨hm, h0, h1, hv⟩ := valuesS_ok h
 obtain ⟨ho, hp⟩ := vars_ok (modelS_vars hm)
 have hin := valS_in vs c ho h0 h1
 have hp1 := prodV_pos ho
 have hr := (modelS_rules hm).2
 induction d with
 | zero =>
  intro i l s hi hs hb
  rw [List.drop_of_length_le (by omega)]
  have c1 : ¬ (i : Int) < (rs.length : Int) := by omega
  refine ev_succ ?_
  simp only [zAS.l0, ↓reduceIte, c1, codesS, List.append_nil]
  cases s with
  | true =>
   have hne : l ≠ [] := hs.1 rfl
   simp only [hne, ↓reduceIte]
   have := nextOf_end (prodV vs).toNat (by omega) l
   rw [show (((prodV vs).toNat : Nat) : Int) = prodV vs by omega] at this
   exact this
  | false =>
   have hne : l = [] := Classical.byContradiction fun hc => by have := hs.2 hc; cases this
   have ff : ((false : Bool) = true) = False := by simp
   simp only [hne, ff, ↓reduceIte]
   exact Ev.now _
 | succ d ih =>
  intro i l s hi hs hb
  have hil : i < rs.length := by omega
  have c1 : (i : Int) < (rs.length : Int) := by omega
  have c2 : (0 : Int) ≤ (i : Int) := Int.natCast_nonneg _
  have w1 : wrap64 ((i : Int) + 1) = ((i + 1 : Nat) : Int) := by rw [wrap_id (by omega) (by omega)]; rfl
  have ha := afterRule_ev vs rs c (i : Int)
  rw [ruleAt_eq] at ha
  unfold afterS at ha
  rw [if_pos h, if_pos ⟨c2, c1⟩, rdR_get rs i hil, hv] at ha
  rw [List.drop_eq_getElem_cons hil, codesS]
  refine ev_succ ?_
  simp only [zAS.l0, ↓reduceIte, c1, w1]
  refine ev_bind ha ?_
  cases he : afterV vs rs[i] (valS vs c) with
  | none =>
   have e11 : ¬ (11 : Int) = 0 := by decide
   simp only [e11, ↓reduceIte]
   exact ih (i + 1) l s (by omega) hs hb
  | some out =>
   obtain ⟨_, n, hn, n0, n1⟩ := afterV_ok hm (rules_all hm _ (List.getElem_mem hil)) (valS_len vs c) hin he
   have c5 : n < ((marks (prodV vs).toNat l).length : Int) := by rw [marks_len]; omega
   simp only [hn, n0, c5, ↓reduceIte]
   rw [marks_set _ _ _ n0]
   refine ev_eq (ih (i + 1) (l ++ [n]) true (by omega) (by simp) (fun x hx => ?_)) ?_
   ·rcases List.mem_append.1 hx with hx | hx
    ·exact hb x hx
    ·rw [List.mem_singleton.1 hx]; exact ⟨n0, n1⟩
   ·rw [List.append_assoc, List.singleton_append]
theorem nextOf_ev (vs : List PVar) (rs : List PRule) (c : Int) : Ev (fun k => zAS.f k vs rs c) (nextS vs rs c) := by
 unfold zAS.f nextS
 refine ev_bind (stateCount_ev vs rs) ?_
 by_cases hm : modelS vs rs = 0
 ·obtain ⟨ho, hp⟩ := vars_ok (modelS_vars hm)
  have hp1 := prodV_pos ho
  have w1 : wrap64 (prodV vs - 1) = prodV vs - 1 := wrap_id (by omega) (by omega)
  unfold countS
  rw [if_pos hm]
  simp only [↓reduceIte, w1]
  refine ev_call (inE_eq _ _ _) ?_
  have ff : ((false : Bool) = true) = False := by simp
  by_cases hc : 0 ≤ c ∧ c < prodV vs
  ·have h2 : decide (0 ≤ c ∧ c ≤ prodV vs - 1) = true := decide_eq_true (by omega)
   have hv : (valuesS vs rs c).2 = 0 := by
    unfold valuesS
    rw [if_pos hm, if_neg (by omega)]
   have c1 : 0 ≤ prodV vs := by omega
   have c2 : (prodV vs).toNat ≤ 281474976710656 := by omega
   simp only [h2, hv, c1, c2, ↓reduceIte]
   rw [← marks_nil]
   refine ev_eq (nextOf_l0 vs rs c hv rs.length 0 [] false (by omega) (by simp) (fun x hx => (nomatch hx))) ?_
   rw [List.drop_zero, List.nil_append, behindL]
  ·have h2 : decide (0 ≤ c ∧ c ≤ prodV vs - 1) = false := decide_eq_false (by omega)
   have hv : (valuesS vs rs c).2 = 9 := by
    unfold valuesS
    rw [if_pos hm, if_pos (by omega)]
   have e9 : ¬ (9 : Int) = 0 := by decide
   simp only [h2, hv, ff, e9, ↓reduceIte]
   exact Ev.now _
 ·have hv : (valuesS vs rs c).2 = modelS vs rs := by
   unfold valuesS
   rw [if_neg hm]
  unfold countS
  rw [if_neg hm]
  simp only [hv, hm, ↓reduceIte]
  exact Ev.now _
theorem nextS_len (vs : List PVar) (rs : List PRule) (c : Int) : (nextS vs rs c).1.length ≤ 4096 := by
 unfold nextS
 split
 ·rename_i h
  obtain ⟨hm, h0, h1, hv⟩ := valuesS_ok h
  obtain ⟨ho, hp⟩ := vars_ok (modelS_vars hm)
  unfold behindL
  split
  ·simp
  ·have := upTo_len (prodV vs).toNat (codesS vs rs (valS vs c) rs)
   simp only
   omega
 ·simp
theorem secondAt_ev {l : List POp} (h1 : one l) (hl : l.length ≤ 60) (i : Nat) (hi : i < l.length) (ha : arIs l[i] 2) : Ev (fun k => zAe.f k l (i : Int)) ((i + 1 + (endAt (l.drop (i + 1)) 0).toNat : Nat) : Int) := by
 obtain ⟨h2, h3, h4, h5⟩ := second_at h1 i hi ha
 unfold zAe.f
 rw [show wrap64 ((i : Int) + 1) = ((i + 1 : Nat) : Int) by rw [wrap_id (by omega) (by omega)]; rfl]
 refine ev_bind (endOf_ev l (by omega) (i + 1) (by omega)) (ev_eq (Ev.now _) ?_)
 obtain ⟨r, hr⟩ := one_places l h1 (i + 1) h2
 have e : endAt l (i + 1) = (l.length : Int) - r.length := by unfold endAt; rw [hr]
 rw [hr]
 show (l.length : Int) - r.length = _
 omega
theorem aheadL_ge : ∀ (l : List POp) (b : Nat) (p : Int), p ∈ aheadL l b → (b : Int) ≤ p
 | [], b, p, h => by simp [aheadL] at h
 | o :: l, b, p, h => by
  unfold aheadL at h
  split at h
  ·rcases List.mem_cons.1 h with rfl | h
   ·exact Int.le_refl _
   ·have := aheadL_ge l (b + 1) p h; omega
  ·have := aheadL_ge l (b + 1) p h; omega
theorem aheadL_get : ∀ (l : List POp) (i b : Nat) (h : i < l.length), ahd l[i].f0 = true → (aheadL l b)[cA (l.take i)]? = some ((b + i : Nat) : Int)
 | o :: l, 0, b, h, ha => by
  have ha : ahd o.f0 = true := ha
  simp [aheadL, cA, ha]
 | o :: l, i + 1, b, h, ha => by
  have ih := aheadL_get l i (b + 1) (by simpa using h) (by simpa using ha)
  unfold aheadL
  rw [List.take_succ_cons, cA]
  by_cases c : ahd o.f0 = true
  ·rw [if_pos c, if_pos c, Nat.add_comm 1, List.getElem?_cons_succ, ih]
   congr 2; omega
  ·rw [if_neg c, if_neg c, Nat.zero_add, ih]
   congr 2; omega
theorem aheadL_inj : ∀ (l : List POp) (j i b : Nat), (aheadL l b)[j]? = some ((b + i : Nat) : Int) → j = cA (l.take i)
 | [], j, i, b, h => by simp [aheadL] at h
 | o :: l, j, i, b, h => by
  unfold aheadL at h
  by_cases c : ahd o.f0 = true
  ·rw [if_pos c] at h
   cases j with
   | zero =>
    simp at h
    obtain rfl : i = 0 := by omega
    rfl
   | succ j =>
    rw [List.getElem?_cons_succ] at h
    have hge := aheadL_ge l (b + 1) _ (List.mem_of_getElem? h)
    cases i with
    | zero => omega
    | succ i =>
     have := aheadL_inj l j i (b + 1) (by rw [h]; congr 2; omega)
     rw [List.take_succ_cons, cA, if_pos c]
     omega
  ·rw [if_neg c] at h
   have hge := aheadL_ge l (b + 1) _ (List.mem_of_getElem? h)
   cases i with
   | zero => omega
   | succ i =>
    have := aheadL_inj l j i (b + 1) (by rw [h]; congr 2; omega)
    rw [List.take_succ_cons, cA, if_neg c]
    omega
theorem trS_drop (letter : List Bool) (claim : Int) : ∀ (l : List POp) (c i : Nat), i ≤ l.length → (trS letter claim l c).drop i = trS letter claim (l.drop i) (c + cA (l.take i))
 | l, c, 0, h => by simp [cA]
 | [], c, i + 1, h => by simp at h
 | o :: l, c, i + 1, h => by
  rw [trS, List.drop_succ_cons, List.drop_succ_cons, trS_drop letter claim l _ i (by simpa using h), List.take_succ_cons, cA]
  congr 1
  omega
theorem trS_at (letter : List Bool) (claim : Int) (l : List POp) (i : Nat) (hi : i < l.length) : (trS letter claim l 0).getD i false =
  (if l[i].f0 = 13 then letter.getD l[i].f1.toNat false
   else if l[i].f0 = 11 then true
   else if l[i].f0 = 12 then false
   else if l[i].f0 = 10 then !((trS letter claim l 0).getD (i + 1) false)
   else if l[i].f0 = 8 then ((trS letter claim l 0).getD (i + 1) false && (trS letter claim l 0).getD (i + 1 + (endAt (l.drop (i + 1)) 0).toNat) false)
   else if l[i].f0 = 9 then ((trS letter claim l 0).getD (i + 1) false || (trS letter claim l 0).getD (i + 1 + (endAt (l.drop (i + 1)) 0).toNat) false)
   else decide (claim / 2 ^ cA (l.take i) % 2 = 1)) := by
 have h1 := trS_drop letter claim l 0 i (by omega)
 have h2 := trS_drop letter claim l 0 (i + 1) (by omega)
 have g : ∀ m, (trS letter claim l 0).getD (i + 1 + m) false = (trS letter claim (l.drop (i + 1)) (cA (l.take i) + if ahd l[i].f0 then 1 else 0)).getD m false := by
  intro m
  have e : (0 + cA (l.take (i + 1))) = cA (l.take i) + if ahd l[i].f0 then 1 else 0 := by rw [cA_take l i hi]; omega
  rw [e] at h2
  rw [← h2, List.getD_eq_getElem?_getD, List.getD_eq_getElem?_getD, List.getElem?_drop]
 have g0 := g 0
 rw [Nat.add_zero] at g0
 have h3 : (trS letter claim l 0).getD i false = ((trS letter claim l 0).drop i).getD 0 false := by
  rw [List.getD_eq_getElem?_getD, List.getD_eq_getElem?_getD, List.getElem?_drop, Nat.add_zero]
 rw [h3, h1, List.drop_eq_getElem_cons hi, trS, g0, g, Nat.zero_add]
 rfl
theorem places_loop (ps : List Int) (hps : ps.length ≤ 1000) (a : Int) (j : Nat) (hj : ps[j]? = some a) (hne : ∀ i, i < j → ps[i]? ≠ some a) (d : Nat) : ∀ (i : Nat) (c : Int), i + d = j → 0 ≤ c → c ≤ 1000000 → Ev (fun k => zAJ.l0 k a ps c i) (decide (c / 2 ^ d % 2 = 1)) := by
 obtain ⟨hjl, hje⟩ := List.getElem?_eq_some_iff.1 hj
 induction d with
 | zero =>
  intro i c hi h0 h1
  obtain rfl : i = j := by omega
  refine ev_now (fun k => ?_)
  have hg : rd ps (i : Int) = a := by rw [rd_get _ _ hjl, hje]
  simp (disch := omega) only [zAJ.l0, if_pos, hg, tmod_of]
  rw [Int.pow_zero, Int.ediv_one]
  congr 1
 | succ d ih =>
  intro i c hi h0 h1
  have hlt : i < ps.length := by omega
  have hg : ¬ rd ps (i : Int) = a := by
   rw [rd_get _ _ hlt]
   intro e
   exact hne i (by omega) (by rw [List.getElem?_eq_getElem hlt, e])
  refine Ev.step (fun k => ?_) (ev_eq (ih (i + 1) (c / 2) (by omega) (by omega) (by omega)) ?_)
  ·simp (disch := omega) only [zAJ.l0, if_pos, if_neg hg, tdiv_of, wrap_id]
   rfl
  ·rw [Int.ediv_ediv_of_nonneg (by omega), Int.pow_succ, Int.mul_comm]
theorem kind_cases {l : List POp} {n : Int} (h1 : one l) (i : Nat) (hi : i < l.length) (hf : fit n l[i] = 0) :
  (l[i].f0 = 13 ∧ 0 ≤ l[i].f1 ∧ l[i].f1 < n) ∨ l[i].f0 = 11 ∨ l[i].f0 = 12 ∨ (l[i].f0 = 10 ∧ arIs l[i] 1) ∨ (l[i].f0 = 8 ∧ arIs l[i] 2) ∨ (l[i].f0 = 9 ∧ arIs l[i] 2) ∨ (14 ≤ l[i].f0 ∧ l[i].f0 ≤ 18) := by
 obtain ⟨rr, hrr⟩ := one_places l h1 i hi
 rw [List.drop_eq_getElem_cons hi, scan_cons] at hrr
 have hp : ¬ (l[i].f0 < 1 ∨ 18 < l[i].f0) := by
  intro hc
  have e : (partsS l[i].f0).2 = 13 := by unfold partsS; rw [if_pos hc]
  rw [e] at hrr
  simp at hrr
 unfold fit at hf
 have h8 : ¬ l[i].f0 < 8 := by
  intro hc
  rw [if_pos hc] at hf
  cases hf
 rw [if_neg h8] at hf
 by_cases k13 : l[i].f0 = 13
 ·rw [if_pos k13] at hf
  split at hf
  ·cases hf
  ·exact .inl ⟨k13, by omega, by omega⟩
 have : l[i].f0 = 8 ∨ l[i].f0 = 9 ∨ l[i].f0 = 10 ∨ l[i].f0 = 11 ∨ l[i].f0 = 12 ∨ (14 ≤ l[i].f0 ∧ l[i].f0 ≤ 18) := by omega
 rcases this with e | e | e | e | e | e
 ·exact .inr (.inr (.inr (.inr (.inl ⟨e, by unfold arIs; rw [e]; decide⟩))))
 ·exact .inr (.inr (.inr (.inr (.inr (.inl ⟨e, by unfold arIs; rw [e]; decide⟩)))))
 ·exact .inr (.inr (.inr (.inl ⟨e, by unfold arIs; rw [e]; decide⟩)))
 ·exact .inr (.inl e)
 ·exact .inr (.inr (.inl e))
 ·exact .inr (.inr (.inr (.inr (.inr (.inr e)))))
theorem cA_take_le (l : List POp) (i : Nat) : cA (l.take i) ≤ cA l := by
 have := cA_append (l.take i) (l.drop i)
 rw [List.take_append_drop] at this
 omega
theorem pow_cA {l : List POp} (h : cA l ≤ 6) : (2 : Int) ^ cA l ≤ 64 := by
 have : cA l = 0 ∨ cA l = 1 ∨ cA l = 2 ∨ cA l = 3 ∨ cA l = 4 ∨ cA l = 5 ∨ cA l = 6 := by omega
 rcases this with e | e | e | e | e | e | e <;> (rw [e]; decide)
theorem truthAt_ev {l : List POp} {letter : List Bool} {claim : Int} (hc : checkS l letter.length = 0) (h0 : 0 ≤ claim) (h1 : claim ≤ 64) (d : Nat) : ∀ i : Nat, i < l.length → l.length - i ≤ d →
  Ev (fun k => zAJ.f k l (i : Int) letter (aheadL l 0) claim) ((trS letter claim l 0).getD i false) := by
 obtain ⟨q1, q2, q3, q4⟩ := checkS_ok hc
 obtain ⟨q5, q6⟩ := checkS_fit hc
 have hpl := aheadL_le l 0
 induction d with
 | zero => intro i hi hd; omega
 | succ d ih =>
  intro i hi hd
  have hg : zAI l (i : Int) = l[i] := getD_get _ _ _ hi
  rw [trS_at letter claim l i hi]
  have w1 : wrap64 ((i : Int) + 1) = ((i + 1 : Nat) : Int) := by rw [wrap_id (by omega) (by omega)]; rfl
  rcases kind_cases q2 i hi (q6 l[i] (List.getElem_mem hi)) with ⟨e, e1, e2⟩ | e | e | ⟨e, ha⟩ | ⟨e, ha⟩ | ⟨e, ha⟩ | ⟨e1, e2⟩
  ·refine ev_now (fun k => ?_)
   simp (disch := omega) only [zAJ.f, if_pos, hg]
   rfl
  ·refine ev_now (fun k => ?_)
   simp (disch := omega) only [zAJ.f, if_pos, if_neg, hg]
  ·refine ev_now (fun k => ?_)
   simp (disch := omega) only [zAJ.f, if_pos, if_neg, hg]
  ·have hi1 := first_at q2 i hi 0 ha
   refine Ev.step (f := fun k => (zAJ.f k l ((i + 1 : Nat) : Int) letter (aheadL l 0) claim).bind fun t => some (!t)) (fun k => ?_) (ev_bind (ih (i + 1) hi1 (by omega)) (ev_eq (Ev.now _) ?_))
   ·simp (disch := omega) only [zAJ.f, if_pos, if_neg, hg, w1]
   ·simp (disch := omega) only [if_pos, if_neg]
  ·obtain ⟨s1, s2, s3, s4⟩ := second_at q2 i hi ha
   refine Ev.step (f := fun k => zAJ.j0 k l (i : Int) letter (aheadL l 0) claim true) (fun k => ?_) ?_
   ·simp (disch := omega) only [zAJ.f, if_pos, if_neg, hg]
    rw [beq_iff_eq.2 e]
   refine Ev.step (f := fun k => (zAJ.f k l ((i + 1 : Nat) : Int) letter (aheadL l 0) claim).bind fun a => (zAe.f k l (i : Int)).bind fun s => (zAJ.f k l s letter (aheadL l 0) claim).bind fun b => some (a && b)) (fun k => ?_) ?_
   ·simp (disch := omega) only [zAJ.j0, if_pos, if_neg, if_true, hg, w1]
    congr 1; funext a; congr 1; funext s; congr 1; funext b
    cases a <;> cases b <;> simp
   refine ev_bind (ih (i + 1) s1 (by omega)) (ev_bind (secondAt_ev q2 q3 i hi ha) (ev_bind (ih _ (by omega) (by omega)) (ev_eq (Ev.now _) ?_)))
   simp (disch := omega) only [if_pos, if_neg]
  ·obtain ⟨s1, s2, s3, s4⟩ := second_at q2 i hi ha
   refine Ev.step (f := fun k => zAJ.j0 k l (i : Int) letter (aheadL l 0) claim true) (fun k => ?_) ?_
   ·simp (disch := omega) only [zAJ.f, if_pos, if_neg, hg]
    rw [beq_iff_eq.2 e]
   refine Ev.step (f := fun k => (zAJ.f k l ((i + 1 : Nat) : Int) letter (aheadL l 0) claim).bind fun a => (zAe.f k l (i : Int)).bind fun s => (zAJ.f k l s letter (aheadL l 0) claim).bind fun b => some (a || b)) (fun k => ?_) ?_
   ·simp (disch := omega) only [zAJ.j0, if_pos, if_neg, if_true, hg, w1]
    congr 1; funext a; congr 1; funext s; congr 1; funext b
    cases a <;> cases b <;> simp
   refine ev_bind (ih (i + 1) s1 (by omega)) (ev_bind (secondAt_ev q2 q3 i hi ha) (ev_bind (ih _ (by omega) (by omega)) (ev_eq (Ev.now _) ?_)))
   simp (disch := omega) only [if_pos, if_neg]
  ·have hah : ahd l[i].f0 = true := decide_eq_true ⟨e1, e2⟩
   have e9 : (l[i].f0 == 9) = false := by rw [beq_eq_false_iff_ne]; omega
   have hcle := cA_take_le l i
   refine Ev.step (f := fun k => zAJ.j0 k l (i : Int) letter (aheadL l 0) claim false) (fun k => ?_) ?_
   ·simp (disch := omega) only [zAJ.f, if_pos, if_neg, hg, e9]
   refine Ev.step (f := fun k => zAJ.l0 k (i : Int) (aheadL l 0) claim 0) (fun k => ?_) ?_
   ·simp (disch := omega) only [zAJ.j0, Bool.false_eq_true, if_false]
   refine ev_eq (places_loop (aheadL l 0) (by omega) (i : Int) (cA (l.take i)) ?_ ?_ (cA (l.take i)) 0 claim (by omega) h0 (by omega)) ?_
   ·have := aheadL_get l i 0 hi hah
    rw [Nat.zero_add] at this
    exact this
   ·intro j hj hc
    have := aheadL_inj l j i 0 (by rw [Nat.zero_add]; exact hc)
    omega
   ·simp (disch := omega) only [if_neg]
theorem most_loop (l : List POp) (letter : List Bool) (claim : Int) (ps : List Int) (hps : ps.length ≤ 6) (r : List Bool × Int) (h : Ev (fun k => (zAE.f claim 0 (2 ^ ps.length - 1)).bind fun t => (if t = true then (zAN.l1 k l letter claim ps ([] : List Bool) 0) else (some (([] : List Bool), 2)))) r) (d : Nat) :
  ∀ i : Nat, i + d = ps.length → Ev (fun k => zAN.l0 k l letter claim ps (2 ^ i) i) r := by
 have hp : ∀ i : Nat, i ≤ 6 → (1 : Int) ≤ 2 ^ i ∧ (2 : Int) ^ i ≤ 64 := by
  intro i hi
  have : i = 0 ∨ i = 1 ∨ i = 2 ∨ i = 3 ∨ i = 4 ∨ i = 5 ∨ i = 6 := by omega
  rcases this with e | e | e | e | e | e | e <;> (rw [e]; decide)
 induction d with
 | zero =>
  intro i hi
  obtain rfl : i = ps.length := by omega
  refine Ev.step (fun k => ?_) h
  have := hp ps.length hps
  simp (disch := omega) only [zAN.l0, if_neg, wrap_id]
 | succ d ih =>
  intro i hi
  refine Ev.step (fun k => ?_) (ih (i + 1) (by omega))
  have := hp i (by omega)
  simp (disch := omega) only [zAN.l0, if_pos, wrap_id]
  rw [Int.pow_succ]
  rfl
theorem truths_loop {l : List POp} {letter : List Bool} {claim : Int} (hc : checkS l letter.length = 0) (h0 : 0 ≤ claim) (h1 : claim ≤ 64) (d : Nat) : ∀ i : Nat, i + d = l.length →
  Ev (fun k => zAN.l1 k l letter claim (aheadL l 0) ((trS letter claim l 0).take i) i) (trS letter claim l 0, 0) := by
 have q3 := (checkS_ok hc).2.2.1
 have hlen := trS_len letter claim l 0
 induction d with
 | zero =>
  intro i hi
  refine ev_now (fun k => ?_)
  simp (disch := omega) only [zAN.l1, if_neg]
  rw [List.take_of_length_le (by omega)]
 | succ d ih =>
  intro i hi
  refine Ev.step (f := fun k => (zAJ.f k l (i : Int) letter (aheadL l 0) claim).bind fun t => zAN.l1 k l letter claim (aheadL l 0) ((trS letter claim l 0).take i ++ [t]) ((i + 1 : Nat) : Int)) (fun k => ?_) (ev_bind (truthAt_ev hc h0 h1 l.length i (by omega) (by omega)) (ev_eq (g := fun k => zAN.l1 k l letter claim (aheadL l 0) ((trS letter claim l 0).take i ++ [(trS letter claim l 0).getD i false]) ((i + 1 : Nat) : Int)) ?_ rfl))
  ·have : ((trS letter claim l 0).take i).length < 140737488355328 := by rw [List.length_take]; omega
   simp (disch := omega) only [zAN.l1, if_pos, wrap_id]
   rfl
  ·have e : (trS letter claim l 0).take i ++ [(trS letter claim l 0).getD i false] = (trS letter claim l 0).take (i + 1) := by
    rw [List.take_succ_eq_append_getElem (by omega)]
    simp [show i < (trS letter claim l 0).length by omega]
   rw [e]
   exact ih (i + 1) (by omega)
theorem truthsOf_ev (l : List POp) (letter : List Bool) (claim : Int) : Ev (fun k => zAN.f k l letter claim) (truthsS l letter claim) := by
 unfold zAN.f truthsS
 refine ev_bind (aheadOf_ev l letter.length) ?_
 unfold aheadS
 by_cases hc : checkS l letter.length = 0
 ·simp only [if_pos hc, if_true]
  have q5 := (checkS_fit hc).1
  have hal := aheadL_cA l 0
  refine most_loop l letter claim (aheadL l 0) (by omega) _ ?_ (aheadL l 0).length 0 (by omega)
  rw [hal]
  refine ev_call (in_eq _ _ _) ?_
  by_cases h : 0 ≤ claim ∧ claim < 2 ^ cA l
  ·rw [if_pos h, decide_eq_true (by omega)]
   simp only [if_true]
   exact truths_loop hc h.1 (by exact Int.le_of_lt (Int.lt_of_lt_of_le h.2 (pow_cA q5))) l.length 0 (by omega)
  ·rw [if_neg h, decide_eq_false (by omega)]
   simp only [Bool.false_eq_true, if_false]
   exact Ev.now _
 ·simp only [if_neg hc]
  exact Ev.now _
theorem ahead_bind {β : Type} (a : Int) (F : Bool → Option β) : (zBH.f a).bind F = F (ahd a) := by rw [ahead_eq]; rfl
theorem looks_bind {β : Type} (a : Int) (F : Bool → Option β) : (zA1.f a).bind F = F (ahd a) := by rw [looksAhead_eq]; rfl
theorem ahd_facts {l : List POp} (h1 : one l) (hl : l.length ≤ 60) (i : Nat) (hi : i < l.length) (ha : ahd l[i].f0 = true) :
  i + 1 < l.length ∧ (l[i].f0 = 14 ∨ l[i].f0 = 17 ∨ l[i].f0 = 18 ∨ (l[i].f0 = 15 ∨ l[i].f0 = 16) ∧ 0 ≤ endAt l (i + 1) ∧ endAt l (i + 1) < (l.length : Int) ∧ Ev (fun k => zAe.f k l (i : Int)) (endAt l (i + 1))) := by
 have hk : 14 ≤ l[i].f0 ∧ l[i].f0 ≤ 18 := of_decide_eq_true ha
 have : l[i].f0 = 14 ∨ l[i].f0 = 17 ∨ l[i].f0 = 18 ∨ l[i].f0 = 15 ∨ l[i].f0 = 16 := by omega
 have two : arIs l[i] 2 → i + 1 < l.length ∧ 0 ≤ endAt l (i + 1) ∧ endAt l (i + 1) < (l.length : Int) ∧ Ev (fun k => zAe.f k l (i : Int)) (endAt l (i + 1)) := by
  intro h2
  obtain ⟨s1, s2, s3, s4⟩ := second_at h1 i hi h2
  exact ⟨s1, by omega, s3, ev_eq (secondAt_ev h1 hl i hi h2) (by omega)⟩
 rcases this with e | e | e | e | e
 ·exact ⟨first_at h1 i hi 0 (by unfold arIs; rw [e]; decide), .inl e⟩
 ·exact ⟨first_at h1 i hi 0 (by unfold arIs; rw [e]; decide), .inr (.inl e)⟩
 ·exact ⟨first_at h1 i hi 0 (by unfold arIs; rw [e]; decide), .inr (.inr (.inl e))⟩
 ·obtain ⟨a, b, c, d⟩ := two (by unfold arIs; rw [e]; decide)
  exact ⟨a, .inr (.inr (.inr ⟨.inl e, b, c, d⟩))⟩
 ·obtain ⟨a, b, c, d⟩ := two (by unfold arIs; rw [e]; decide)
  exact ⟨a, .inr (.inr (.inr ⟨.inr e, b, c, d⟩))⟩
theorem truthsS_ok {l : List POp} {letter : List Bool} {claim : Int} (h : (truthsS l letter claim).2 = 0) : checkS l letter.length = 0 ∧ 0 ≤ claim ∧ claim < 2 ^ cA l ∧ (truthsS l letter claim).1 = trS letter claim l 0 := by
 unfold truthsS at h ⊢
 by_cases hc : checkS l letter.length = 0
 ·rw [if_pos hc] at h ⊢
  split at h
  ·rename_i h2
   rw [if_pos h2]
   exact ⟨hc, h2.1, h2.2, rfl⟩
  ·cases h
 ·rw [if_neg hc] at h; exact absurd h hc
theorem ends_of {l : List POp} {n : Int} (h : checkS l n = 0) : zBD.f l = some ((List.range l.length).map (endAt l), 0) := by
 show some (endsS l) = _
 rw [(checkS_ok h).2.2.2]
end Go.Proofs.YtgdijfhdpgdanaaGreatDoor.Pure
