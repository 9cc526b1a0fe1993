-- Cut by a program of this session (wip/prune.py) from a longer text: declarations that the law does not need are left out.
import Derived.Test.YtkpddelnkjjflaaDoorKStepLettersMCount
import Derived.Test.YtkpddelnkjjflaaDoorKStepLettersMx7
import Derived.Test.YtkpddelnkjjflaaDoorKStepLettersMx7
namespace Go.Proofs.YtkpddelnkjjflaaDoor.Pure
open Go.RowKit Go.Proofs.YtkpddelnkjjflaaDoor Go.Proofs.YtkpddelnkjjflaaDoor.M Go.Proofs.YtkpddelnkjjflaaDoor.Base Go.Proofs.YtkpddelnkjjflaaDoorW.PrintWords Go.Proofs.YtkpddelnkjjflaaDoorW.PrintLast Go.Proofs.YtkpddelnkjjflaaDoorW.PrintMore
set_option linter.unusedVariables false
set_option linter.unusedSimpArgs false
def valS : List PVar → Int → List Int
 | [], _ => []
 | v :: vs, c => (v.f1 + c / prodV vs) :: valS vs (c % prodV vs)
theorem valS_len : ∀ (vs : List PVar) (c : Int), (valS vs c).length = vs.length
 | [], _ => rfl
 | v :: vs, c => by simp [valS, valS_len vs]
theorem prodV_snoc (l : List PVar) (v : PVar) : prodV (l ++ [v]) = prodV l * (v.f2 - v.f1 + 1) := by
 induction l with
 | nil => simp [prodV]
 | cons u l ih => rw [List.cons_append, prodV_cons, prodV_cons, ih, Int.mul_assoc]
theorem div_mod_parts {c p s : Int} (hc : 0 ≤ c) (hp : 1 ≤ p) (hs : 1 ≤ s) : c / (p * s) = c / s / p ∧ (c % (p * s)) / s = (c / s) % p ∧ (c % (p * s)) % s = c % s := by
 have hps : 0 < p * s := Int.mul_pos (by omega) (by omega)
 refine ⟨by rw [Int.mul_comm, Int.ediv_ediv_of_nonneg (by omega)], ?_, by rw [Int.emod_emod_of_dvd _ (Int.dvd_mul_left p s)]⟩
 have h1 : c = c % (p * s) + (c / (p * s) * p) * s := by
  have := Int.emod_add_mul_ediv c (p * s)
  rw [Int.mul_comm (p * s), ← Int.mul_assoc] at this
  exact this.symm
 have h2 : c / s = c % (p * s) / s + c / (p * s) * p := by
  conv => lhs; rw [h1]
  rw [Int.add_mul_ediv_right _ _ (by omega)]
 rw [h2, Int.add_mul_emod_self_right]
 have r0 : 0 ≤ c % (p * s) := Int.emod_nonneg _ (by omega)
 have r1 : c % (p * s) < p * s := Int.emod_lt_of_pos _ hps
 exact (Int.emod_eq_of_lt (Int.ediv_nonneg r0 (by omega)) (Int.ediv_lt_of_lt_mul (by omega) r1)).symm
theorem valS_last (v : PVar) (hv : VOk v) : ∀ (l : List PVar) (c : Int), (∀ u ∈ l, VOk u) → 0 ≤ c → c < prodV (l ++ [v]) → valS (l ++ [v]) c = valS l (c / (v.f2 - v.f1 + 1)) ++ [v.f1 + c % (v.f2 - v.f1 + 1)]
 | [], c, _, hc, hlt => by
  unfold VOk at hv
  simp only [List.nil_append, valS, prodV, Int.ediv_one, List.cons.injEq, and_true]
  rw [List.nil_append, prodV_cons] at hlt
  unfold prodV at hlt
  rw [Int.emod_eq_of_lt hc (by omega)]
 | u :: l, c, hl, hc, hlt => by
  have hv' := hv
  unfold VOk at hv'
  have hp := prodV_pos (l := l) (fun x hx => hl x (by simp [hx]))
  have hps : 0 < prodV l * (v.f2 - v.f1 + 1) := Int.mul_pos (by omega) (by omega)
  obtain ⟨e1, e2, e3⟩ := div_mod_parts hc hp (show 1 ≤ v.f2 - v.f1 + 1 by omega)
  have hi := valS_last v hv l (c % prodV (l ++ [v])) (fun x hx => hl x (by simp [hx])) (by rw [prodV_snoc]; exact Int.emod_nonneg _ (by omega)) (by rw [prodV_snoc]; exact Int.emod_lt_of_pos _ hps)
  rw [List.cons_append]
  show (u.f1 + c / prodV (l ++ [v])) :: valS (l ++ [v]) (c % prodV (l ++ [v])) = (u.f1 + c / (v.f2 - v.f1 + 1) / prodV l) :: valS l (c / (v.f2 - v.f1 + 1) % prodV l) ++ _
  rw [hi, prodV_snoc, e1, e2, e3]
  rfl
theorem values_l0 (vs : List PVar) (rs : List PRule) (hv : vs.length ≤ 6) (ho : ∀ v ∈ vs, VOk v) (i : Nat) : ∀ (c : Int) (out : List Int), i ≤ vs.length → out.length = vs.length → 0 ≤ c → c < prodV (vs.take i) → prodV (vs.take i) ≤ 4096 →
  Ev (fun k => model_Values.l0 k c out ((i : Int) - 1) vs rs) (valS (vs.take i) c ++ out.drop i, 0) := by
 induction i with
 | zero =>
  intro c out hi hl hc hlt hp
  have c1 : ¬ ((0 : Nat) : Int) - 1 ≥ 0 := by decide
  refine ev_succ ?_
  simp only [model_Values.l0, ↓reduceIte, c1]
  exact Ev.now _
 | succ i ih =>
  intro c out hi hl hc hlt hp
  have hil : i < vs.length := by omega
  have hvi := ho _ (List.getElem_mem hil)
  have hvi' := hvi
  unfold VOk at hvi'
  have hto : ∀ u ∈ vs.take i, VOk u := fun u hu => ho u (List.mem_of_mem_take hu)
  have hpt := prodV_pos hto
  rw [List.take_succ_eq_append_getElem hil] at hlt hp ⊢
  have hlast := valS_last vs[i] hvi (vs.take i) c hto hc hlt
  rw [prodV_snoc] at hlt hp
  have hsp : prodV (vs.take i) * 1 ≤ prodV (vs.take i) * (vs[i].f2 - vs[i].f1 + 1) := Int.mul_le_mul (Int.le_refl _) (by omega) (by decide) (by omega)
  have e0 : ((i + 1 : Nat) : Int) - 1 = (i : Int) := by omega
  have c1 : (i : Int) ≥ 0 := by omega
  have c2 : (0 : Int) ≤ (i : Int) := by omega
  have c3 : (i : Int) < (vs.length : Int) := by omega
  have c4 : ¬ vs[i].f2 - vs[i].f1 + 1 = 0 := by omega
  have c5 : (i : Int) < (out.length : Int) := by omega
  have w1 : wrap64 ((i : Int) - 1) = (i : Int) - 1 := wrap_id (by omega) (by omega)
  have m0 : 0 ≤ c % (vs[i].f2 - vs[i].f1 + 1) := Int.emod_nonneg _ (by omega)
  have m1 : c % (vs[i].f2 - vs[i].f1 + 1) < vs[i].f2 - vs[i].f1 + 1 := Int.emod_lt_of_pos _ (by omega)
  have q0 : 0 ≤ c / (vs[i].f2 - vs[i].f1 + 1) := Int.ediv_nonneg hc (by omega)
  have q1 : c / (vs[i].f2 - vs[i].f1 + 1) < prodV (vs.take i) := Int.ediv_lt_of_lt_mul (by omega) hlt
  have w2 : wrap64 (c / (vs[i].f2 - vs[i].f1 + 1)) = c / (vs[i].f2 - vs[i].f1 + 1) := wrap_id (by omega) (by omega)
  have w3 : wrap64 (vs[i].f1 + c % (vs[i].f2 - vs[i].f1 + 1)) = vs[i].f1 + c % (vs[i].f2 - vs[i].f1 + 1) := wrap_id (by omega) (by omega)
  refine ev_succ ?_
  rw [e0]
  simp only [model_Values.l0, ↓reduceIte, c1, c2, c3, c4, c5, rdV_get vs i hil, span_wrap hvi, tdiv_of hc, tmod_of hc, w1, w2, w3, Int.toNat_natCast]
  refine ev_eq (ih _ _ (by omega) (by rw [List.length_set]; exact hl) q0 q1 (by omega)) ?_
  rw [hlast, List.append_assoc]
  congr 2
  have hol : i < out.length := by omega
  rw [List.drop_set, if_neg (by omega), Nat.sub_self, List.drop_eq_getElem_cons hol]
  rfl
def valuesS (vs : List PVar) (rs : List PRule) (c : Int) : List Int × Int := if modelS vs rs = 0 then (if c < 0 ∨ prodV vs ≤ c then ([], 9) else (valS vs c, 0)) else ([], modelS vs rs)
theorem values_ev (vs : List PVar) (rs : List PRule) (c : Int) : Ev (fun k => model_Values.f k vs rs c) (valuesS vs rs c) := by
 unfold model_Values.f valuesS
 refine ev_bind (count_ev vs rs) ?_
 unfold countS
 by_cases h : modelS vs rs = 0
 ·obtain ⟨ho, hp⟩ := vars_ok (modelS_vars h)
  have hl := modelS_len h
  simp only [h, ↓reduceIte]
  by_cases h1 : c < 0
  ·simp only [h1, true_or, ↓reduceIte]
   refine ev_succ ?_
   simp only [model_Values.j0, ↓reduceIte]
   exact Ev.now _
  by_cases h2 : prodV vs ≤ c
  ·have d2 : decide (c ≥ prodV vs) = true := decide_eq_true h2
   simp only [h1, h2, d2, or_true, ↓reduceIte]
   refine ev_succ ?_
   simp only [model_Values.j0, ↓reduceIte]
   exact Ev.now _
  have d2 : decide (c ≥ prodV vs) = false := decide_eq_false (by omega)
  simp only [h1, h2, d2, or_self, ↓reduceIte]
  have c1 : (0 : Int) ≤ (vs.length : Int) := by omega
  have c2 : (vs.length : Int).toNat ≤ 35184372088832 := by omega
  have w1 : wrap64 ((vs.length : Int) - 1) = (vs.length : Int) - 1 := wrap_id (by omega) (by omega)
  refine ev_succ ?_
  simp only [model_Values.j0, Bool.false_eq_true, ↓reduceIte, c1, c2, w1]
  have := values_l0 vs rs hl ho vs.length c (List.replicate (vs.length : Int).toNat 0) (Nat.le_refl _) (by simp) (by omega) (by rw [List.take_length]; omega) (by rw [List.take_length]; exact hp)
  rw [List.take_length, List.drop_of_length_le (by simp), List.append_nil] at this
  exact this
 ·simp only [h, ↓reduceIte]
  exact Ev.now _
theorem valuesOf_l0 (vs : List PVar) (rs : List PRule) (hv : vs.length ≤ 6) (ho : ∀ v ∈ vs, VOk v) (hp : prodV vs ≤ 4096) (d : Nat) : ∀ (i : Nat) (c : Int) (acc : List Int), i + d = vs.length → acc.length = i → 0 ≤ c → c < prodV (vs.drop i) →
  Ev (fun k => foretellref_ValuesOf.l0 k c acc i vs rs) (acc ++ valS (vs.drop i) c, 0) := by
 induction d with
 | zero =>
  intro i c acc hi ha hc hlt
  rw [List.drop_of_length_le (by omega)]
  have c1 : ¬ (i : Int) < (vs.length : Int) := by omega
  refine ev_succ ?_
  simp only [foretellref_ValuesOf.l0, ↓reduceIte, c1, valS, List.append_nil]
  exact Ev.now _
 | succ d ih =>
  intro i c acc hi ha hc hlt
  have hil : i < vs.length := by omega
  have c1 : (i : Int) < (vs.length : Int) := by omega
  have c2 : (0 : Int) ≤ (i : Int) := by omega
  have c3 : acc.length < 17592186044416 := by omega
  have w1 : wrap64 ((i : Int) + 1) = ((i + 1 : Nat) : Int) := by rw [wrap_id (by omega) (by omega)]; rfl
  have hvi := ho _ (List.getElem_mem hil)
  have hvi' := hvi
  unfold VOk at hvi'
  have hpr := prodV_pos (drop_ok ho (i + 1))
  have hdp := prodV_drop ho i
  have c4 : ¬ prodV (vs.drop (i + 1)) = 0 := by omega
  rw [List.drop_eq_getElem_cons hil] at hlt hdp ⊢
  rw [prodV_cons] at hlt hdp
  have q0 : 0 ≤ c / prodV (vs.drop (i + 1)) := Int.ediv_nonneg hc (by omega)
  have q1 : c / prodV (vs.drop (i + 1)) < vs[i].f2 - vs[i].f1 + 1 := Int.ediv_lt_of_lt_mul (by omega) hlt
  have w2 : wrap64 (c / prodV (vs.drop (i + 1))) = c / prodV (vs.drop (i + 1)) := wrap_id (by omega) (by omega)
  have w3 : wrap64 (vs[i].f1 + c / prodV (vs.drop (i + 1))) = vs[i].f1 + c / prodV (vs.drop (i + 1)) := wrap_id (by omega) (by omega)
  refine ev_succ ?_
  simp only [foretellref_ValuesOf.l0, ↓reduceIte, c1]
  refine ev_bind (behind_ev vs rs hv ho hp (i + 1) (by omega) (i : Int) (by omega)) ?_
  simp only [↓reduceIte, c2, c3, c4, rdV_get vs i hil, tdiv_of hc, tmod_of hc, w1, w2, w3]
  refine ev_eq (ih (i + 1) _ _ (by omega) (by simp [ha]) (Int.emod_nonneg _ (by omega)) (Int.emod_lt_of_pos _ (by omega))) ?_
  rw [List.append_assoc]
  rfl
theorem valuesOf_ev (vs : List PVar) (rs : List PRule) (c : Int) : Ev (fun k => foretellref_ValuesOf.f k vs rs c) (valuesS vs rs c) := by
 unfold foretellref_ValuesOf.f valuesS
 refine ev_bind (stateCount_ev vs rs) ?_
 unfold countS
 by_cases h : modelS vs rs = 0
 ·obtain ⟨ho, hp⟩ := vars_ok (modelS_vars h)
  have hl := modelS_len h
  have hpp := prodV_pos ho
  have w1 : wrap64 (prodV vs - 1) = prodV vs - 1 := wrap_id (by omega) (by omega)
  simp only [h, ↓reduceIte, inE_eq, x_bind, w1]
  by_cases h1 : 0 ≤ c ∧ c ≤ prodV vs - 1
  ·have d1 : decide (0 ≤ c ∧ c ≤ prodV vs - 1) = true := decide_eq_true h1
   rw [if_neg (show ¬ (c < 0 ∨ prodV vs ≤ c) by omega)]
   simp only [d1, ↓reduceIte]
   exact valuesOf_l0 vs rs hl ho hp vs.length 0 c [] (by omega) rfl h1.1 (by rw [List.drop_zero]; omega)
  ·have d1 : decide (0 ≤ c ∧ c ≤ prodV vs - 1) = false := decide_eq_false h1
   rw [if_pos (show c < 0 ∨ prodV vs ≤ c by omega)]
   simp only [d1, Bool.false_eq_true, ↓reduceIte]
   exact Ev.now _
 ·simp only [h, ↓reduceIte]
  exact Ev.now _
theorem valuesS_len (vs : List PVar) (rs : List PRule) (c : Int) : (valuesS vs rs c).1.length ≤ 6 := by
 unfold valuesS
 split
 ·rename_i h
  split
  ·decide
  ·show (valS vs c).length ≤ 6
   rw [valS_len]; exact modelS_len h
 ·exact Nat.zero_le _
end Go.Proofs.YtkpddelnkjjflaaDoor.Pure
