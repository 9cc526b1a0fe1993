import Derived.Test.YtbekikafhpdehaaDoorKVerdictRunsG46
import Derived.Test.YtbekikafhpdehaaDoorKVerdictRunsG19
import Derived.Test.YtbekikafhpdehaaDoorKVerdictRunsG37
import Derived.Test.YtbekikafhpdehaaDoorKVerdictRunsG38
import Derived.Test.YtbekikafhpdehaaDoorKVerdictRunsG40
import Derived.Test.YtbekikafhpdehaaDoorKVerdictRunsG24
namespace Go.Proofs.YtbekikafhpdehaaDoor.Pure
open Go.RowKit Go.Proofs.YtbekikafhpdehaaDoor Go.Proofs.YtbekikafhpdehaaDoor.V Go.Proofs.YtbekikafhpdehaaDoor.Base Go.Proofs.YtbekikafhpdehaaDoorW.PrintWords Go.Proofs.YtbekikafhpdehaaDoorW.PrintLast Go.Proofs.YtbekikafhpdehaaDoorW.PrintMore
set_option linter.unusedVariables false
set_option linter.unusedSimpArgs false
theorem count_l0 (vs : List PVar) (hv : vs.length ≤ 6) (ho : ∀ v ∈ vs, VOk v) (d : Nat) : ∀ (i : Nat) (a : Int), i + d = vs.length → 1 ≤ a → a * prodV (vs.drop i) ≤ 4096 → Ev (fun k => model_Count.l0 k a vs (vs.length : Int) i) (a * prodV (vs.drop i), 0) := by
 induction d with
 | zero =>
  intro i a hi ha hp
  rw [List.drop_of_length_le (by omega)]
  have c1 : ¬ (i : Int) < (vs.length : Int) := by omega
  refine ev_succ ?_
  simp only [model_Count.l0, ↓reduceIte, c1, prodV, Int.mul_one]
  exact Ev.now _
 | succ d ih =>
  intro i a hi ha hp
  have hil : i < vs.length := by omega
  have c1 : (i : Int) < (vs.length : Int) := by omega
  have c2 : (0 : Int) ≤ (i : Int) := by omega
  have w1 : wrap64 ((i : Int) + 1) = ((i + 1 : Nat) : Int) := by rw [wrap_id (by omega) (by omega)]; rfl
  have hvi := ho _ (List.getElem_mem hil)
  rw [List.drop_eq_getElem_cons hil] at hp ⊢
  obtain ⟨p1, p2, p3⟩ := part_prod ha hvi (drop_ok ho _) hp
  have w2 : wrap64 (a * (vs[i].f2 - vs[i].f1 + 1)) = a * (vs[i].f2 - vs[i].f1 + 1) := wrap_id (by omega) (by omega)
  refine ev_succ ?_
  simp only [model_Count.l0, ↓reduceIte, c1, c2, rdV_get vs i hil, w1, span_wrap hvi, w2]
  rw [prodV_cons, ← Int.mul_assoc]
  exact ih (i + 1) _ (by omega) p1 p3
def countS (vs : List PVar) (rs : List PRule) : Int × Int := if modelS vs rs = 0 then (prodV vs, 0) else (0, modelS vs rs)
theorem count_ev (vs : List PVar) (rs : List PRule) : Ev (fun k => model_Count.f k vs rs) (countS vs rs) := by
 unfold model_Count.f countS
 refine ev_bind (modelCheck_ev vs rs) ?_
 by_cases h : modelS vs rs = 0
 ·obtain ⟨ho, hp⟩ := vars_ok (modelS_vars h)
  simp only [h, ↓reduceIte]
  have := count_l0 vs (modelS_len h) ho vs.length 0 1 (by omega) (by decide) (by rw [Int.one_mul]; exact hp)
  rw [Int.one_mul] at this
  exact this
 ·simp only [h, ↓reduceIte]
  exact Ev.now _
theorem stateCount_ev (vs : List PVar) (rs : List PRule) : Ev (fun k => foretellref_StateCount.f k vs rs) (countS vs rs) := by
 unfold foretellref_StateCount.f countS
 refine ev_bind (modelFault_ev vs rs) ?_
 by_cases h : modelS vs rs = 0
 ·obtain ⟨ho, hp⟩ := vars_ok (modelS_vars h)
  simp only [h, ↓reduceIte]
  exact ev_bind (behind_ev vs rs (modelS_len h) ho hp 0 (by omega) (-1) (by omega)) (Ev.now _)
 ·simp only [h, ↓reduceIte]
  exact Ev.now _
def valS : List PVar → Int → List Int
 | [], _ => []
 | v :: vs, c => (v.f1 + c / prodV vs) :: valS vs (c % prodV vs)
theorem valS_len : ∀ (vs : List PVar) (c : Int), (valS vs c).length = vs.length
 | [], _ => rfl
 | v :: vs, c => by simp [valS, valS_len vs]
theorem prodV_snoc (l : List PVar) (v : PVar) : prodV (l ++ [v]) = prodV l * (v.f2 - v.f1 + 1) := by
 induction l with
 | nil => simp [prodV]
 | cons u l ih => rw [List.cons_append, prodV_cons, prodV_cons, ih, Int.mul_assoc]
theorem div_mod_parts {c p s : Int} (hc : 0 ≤ c) (hp : 1 ≤ p) (hs : 1 ≤ s) : c / (p * s) = c / s / p ∧ (c % (p * s)) / s = (c / s) % p ∧ (c % (p * s)) % s = c % s := by
 have hps : 0 < p * s := Int.mul_pos (by omega) (by omega)
 refine ⟨by rw [Int.mul_comm, Int.ediv_ediv_of_nonneg (by omega)], ?_, by rw [Int.emod_emod_of_dvd _ (Int.dvd_mul_left p s)]⟩
 have h1 : c = c % (p * s) + (c / (p * s) * p) * s := by
  have := Int.emod_add_mul_ediv c (p * s)
  rw [Int.mul_comm (p * s), ← Int.mul_assoc] at this
  exact this.symm
 have h2 : c / s = c % (p * s) / s + c / (p * s) * p := by
  conv => lhs; rw [h1]
  rw [Int.add_mul_ediv_right _ _ (by omega)]
 rw [h2, Int.add_mul_emod_self_right]
 have r0 : 0 ≤ c % (p * s) := Int.emod_nonneg _ (by omega)
 have r1 : c % (p * s) < p * s := Int.emod_lt_of_pos _ hps
 exact (Int.emod_eq_of_lt (Int.ediv_nonneg r0 (by omega)) (Int.ediv_lt_of_lt_mul (by omega) r1)).symm
theorem valS_last (v : PVar) (hv : VOk v) : ∀ (l : List PVar) (c : Int), (∀ u ∈ l, VOk u) → 0 ≤ c → c < prodV (l ++ [v]) → valS (l ++ [v]) c = valS l (c / (v.f2 - v.f1 + 1)) ++ [v.f1 + c % (v.f2 - v.f1 + 1)]
 | [], c, _, hc, hlt => by
  unfold VOk at hv
  simp only [List.nil_append, valS, prodV, Int.ediv_one, List.cons.injEq, and_true]
  rw [List.nil_append, prodV_cons] at hlt
  unfold prodV at hlt
  rw [Int.emod_eq_of_lt hc (by omega)]
 | u :: l, c, hl, hc, hlt => by
  have hv' := hv
  unfold VOk at hv'
  have hp := prodV_pos (l := l) (fun x hx => hl x (by simp [hx]))
  have hps : 0 < prodV l * (v.f2 - v.f1 + 1) := Int.mul_pos (by omega) (by omega)
  obtain ⟨e1, e2, e3⟩ := div_mod_parts hc hp (show 1 ≤ v.f2 - v.f1 + 1 by omega)
  have hi := valS_last v hv l (c % prodV (l ++ [v])) (fun x hx => hl x (by simp [hx])) (by rw [prodV_snoc]; exact Int.emod_nonneg _ (by omega)) (by rw [prodV_snoc]; exact Int.emod_lt_of_pos _ hps)
  rw [List.cons_append]
  show (u.f1 + c / prodV (l ++ [v])) :: valS (l ++ [v]) (c % prodV (l ++ [v])) = (u.f1 + c / (v.f2 - v.f1 + 1) / prodV l) :: valS l (c / (v.f2 - v.f1 + 1) % prodV l) ++ _
  rw [hi, prodV_snoc, e1, e2, e3]
  rfl
theorem values_l0 (vs : List PVar) (rs : List PRule) (hv : vs.length ≤ 6) (ho : ∀ v ∈ vs, VOk v) (i : Nat) : ∀ (c : Int) (out : List Int), i ≤ vs.length → out.length = vs.length → 0 ≤ c → c < prodV (vs.take i) → prodV (vs.take i) ≤ 4096 →
  Ev (fun k => model_Values.l0 k c out ((i : Int) - 1) vs rs) (valS (vs.take i) c ++ out.drop i, 0) := by
 induction i with
 | zero =>
  intro c out hi hl hc hlt hp
  have c1 : ¬ ((0 : Nat) : Int) - 1 ≥ 0 := by decide
  refine ev_succ ?_
  simp only [model_Values.l0, ↓reduceIte, c1]
  exact Ev.now _
 | succ i ih =>
  intro c out hi hl hc hlt hp
  have hil : i < vs.length := by omega
  have hvi := ho _ (List.getElem_mem hil)
  have hvi' := hvi
  unfold VOk at hvi'
  have hto : ∀ u ∈ vs.take i, VOk u := fun u hu => ho u (List.mem_of_mem_take hu)
  have hpt := prodV_pos hto
  rw [List.take_succ_eq_append_getElem hil] at hlt hp ⊢
  have hlast := valS_last vs[i] hvi (vs.take i) c hto hc hlt
  rw [prodV_snoc] at hlt hp
  have hsp : prodV (vs.take i) * 1 ≤ prodV (vs.take i) * (vs[i].f2 - vs[i].f1 + 1) := Int.mul_le_mul (Int.le_refl _) (by omega) (by decide) (by omega)
  have e0 : ((i + 1 : Nat) : Int) - 1 = (i : Int) := by omega
  have c1 : (i : Int) ≥ 0 := by omega
  have c2 : (0 : Int) ≤ (i : Int) := by omega
  have c3 : (i : Int) < (vs.length : Int) := by omega
  have c4 : ¬ vs[i].f2 - vs[i].f1 + 1 = 0 := by omega
  have c5 : (i : Int) < (out.length : Int) := by omega
  have w1 : wrap64 ((i : Int) - 1) = (i : Int) - 1 := wrap_id (by omega) (by omega)
  have m0 : 0 ≤ c % (vs[i].f2 - vs[i].f1 + 1) := Int.emod_nonneg _ (by omega)
  have m1 : c % (vs[i].f2 - vs[i].f1 + 1) < vs[i].f2 - vs[i].f1 + 1 := Int.emod_lt_of_pos _ (by omega)
  have q0 : 0 ≤ c / (vs[i].f2 - vs[i].f1 + 1) := Int.ediv_nonneg hc (by omega)
  have q1 : c / (vs[i].f2 - vs[i].f1 + 1) < prodV (vs.take i) := Int.ediv_lt_of_lt_mul (by omega) hlt
  have w2 : wrap64 (c / (vs[i].f2 - vs[i].f1 + 1)) = c / (vs[i].f2 - vs[i].f1 + 1) := wrap_id (by omega) (by omega)
  have w3 : wrap64 (vs[i].f1 + c % (vs[i].f2 - vs[i].f1 + 1)) = vs[i].f1 + c % (vs[i].f2 - vs[i].f1 + 1) := wrap_id (by omega) (by omega)
  refine ev_succ ?_
  rw [e0]
  simp only [model_Values.l0, ↓reduceIte, c1, c2, c3, c4, c5, rdV_get vs i hil, span_wrap hvi, tdiv_of hc, tmod_of hc, w1, w2, w3, Int.toNat_natCast]
  refine ev_eq (ih _ _ (by omega) (by rw [List.length_set]; exact hl) q0 q1 (by omega)) ?_
  rw [hlast, List.append_assoc]
  congr 2
  have hol : i < out.length := by omega
  rw [List.drop_set, if_neg (by omega), Nat.sub_self, List.drop_eq_getElem_cons hol]
  rfl
def valuesS (vs : List PVar) (rs : List PRule) (c : Int) : List Int × Int := if modelS vs rs = 0 then (if c < 0 ∨ prodV vs ≤ c then ([], 9) else (valS vs c, 0)) else ([], modelS vs rs)
theorem values_ev (vs : List PVar) (rs : List PRule) (c : Int) : Ev (fun k => model_Values.f k vs rs c) (valuesS vs rs c) := by
 unfold model_Values.f valuesS
 refine ev_bind (count_ev vs rs) ?_
 unfold countS
 by_cases h : modelS vs rs = 0
 ·obtain ⟨ho, hp⟩ := vars_ok (modelS_vars h)
  have hl := modelS_len h
  simp only [h, ↓reduceIte]
  by_cases h1 : c < 0
  ·simp only [h1, true_or, ↓reduceIte]
   refine ev_succ ?_
   simp only [model_Values.j0, ↓reduceIte]
   exact Ev.now _
  by_cases h2 : prodV vs ≤ c
  ·have d2 : decide (c ≥ prodV vs) = true := decide_eq_true h2
   simp only [h1, h2, d2, or_true, ↓reduceIte]
   refine ev_succ ?_
   simp only [model_Values.j0, ↓reduceIte]
   exact Ev.now _
  have d2 : decide (c ≥ prodV vs) = false := decide_eq_false (by omega)
  simp only [h1, h2, d2, or_self, ↓reduceIte]
  have c1 : (0 : Int) ≤ (vs.length : Int) := by omega
  have c2 : (vs.length : Int).toNat ≤ 35184372088832 := by omega
  have w1 : wrap64 ((vs.length : Int) - 1) = (vs.length : Int) - 1 := wrap_id (by omega) (by omega)
  refine ev_succ ?_
  simp only [model_Values.j0, Bool.false_eq_true, ↓reduceIte, c1, c2, w1]
  have := values_l0 vs rs hl ho vs.length c (List.replicate (vs.length : Int).toNat 0) (Nat.le_refl _) (by simp) (by omega) (by rw [List.take_length]; omega) (by rw [List.take_length]; exact hp)
  rw [List.take_length, List.drop_of_length_le (by simp), List.append_nil] at this
  exact this
 ·simp only [h, ↓reduceIte]
  exact Ev.now _
theorem valuesOf_l0 (vs : List PVar) (rs : List PRule) (hv : vs.length ≤ 6) (ho : ∀ v ∈ vs, VOk v) (hp : prodV vs ≤ 4096) (d : Nat) : ∀ (i : Nat) (c : Int) (acc : List Int), i + d = vs.length → acc.length = i → 0 ≤ c → c < prodV (vs.drop i) →
  Ev (fun k => foretellref_ValuesOf.l0 k c acc i vs rs) (acc ++ valS (vs.drop i) c, 0) := by
 induction d with
 | zero =>
  intro i c acc hi ha hc hlt
  rw [List.drop_of_length_le (by omega)]
  have c1 : ¬ (i : Int) < (vs.length : Int) := by omega
  refine ev_succ ?_
  simp only [foretellref_ValuesOf.l0, ↓reduceIte, c1, valS, List.append_nil]
  exact Ev.now _
 | succ d ih =>
  intro i c acc hi ha hc hlt
  have hil : i < vs.length := by omega
  have c1 : (i : Int) < (vs.length : Int) := by omega
  have c2 : (0 : Int) ≤ (i : Int) := by omega
  have c3 : acc.length < 17592186044416 := by omega
  have w1 : wrap64 ((i : Int) + 1) = ((i + 1 : Nat) : Int) := by rw [wrap_id (by omega) (by omega)]; rfl
  have hvi := ho _ (List.getElem_mem hil)
  have hvi' := hvi
  unfold VOk at hvi'
  have hpr := prodV_pos (drop_ok ho (i + 1))
  have hdp := prodV_drop ho i
  have c4 : ¬ prodV (vs.drop (i + 1)) = 0 := by omega
  rw [List.drop_eq_getElem_cons hil] at hlt hdp ⊢
  rw [prodV_cons] at hlt hdp
  have q0 : 0 ≤ c / prodV (vs.drop (i + 1)) := Int.ediv_nonneg hc (by omega)
  have q1 : c / prodV (vs.drop (i + 1)) < vs[i].f2 - vs[i].f1 + 1 := Int.ediv_lt_of_lt_mul (by omega) hlt
  have w2 : wrap64 (c / prodV (vs.drop (i + 1))) = c / prodV (vs.drop (i + 1)) := wrap_id (by omega) (by omega)
  have w3 : wrap64 (vs[i].f1 + c / prodV (vs.drop (i + 1))) = vs[i].f1 + c / prodV (vs.drop (i + 1)) := wrap_id (by omega) (by omega)
  refine ev_succ ?_
  simp only [foretellref_ValuesOf.l0, ↓reduceIte, c1]
  refine ev_bind (behind_ev vs rs hv ho hp (i + 1) (by omega) (i : Int) (by omega)) ?_
  simp only [↓reduceIte, c2, c3, c4, rdV_get vs i hil, tdiv_of hc, tmod_of hc, w1, w2, w3]
  refine ev_eq (ih (i + 1) _ _ (by omega) (by simp [ha]) (Int.emod_nonneg _ (by omega)) (Int.emod_lt_of_pos _ (by omega))) ?_
  rw [List.append_assoc]
  rfl
theorem valuesOf_ev (vs : List PVar) (rs : List PRule) (c : Int) : Ev (fun k => foretellref_ValuesOf.f k vs rs c) (valuesS vs rs c) := by
 unfold foretellref_ValuesOf.f valuesS
 refine ev_bind (stateCount_ev vs rs) ?_
 unfold countS
 by_cases h : modelS vs rs = 0
 ·obtain ⟨ho, hp⟩ := vars_ok (modelS_vars h)
  have hl := modelS_len h
  have hpp := prodV_pos ho
  have w1 : wrap64 (prodV vs - 1) = prodV vs - 1 := wrap_id (by omega) (by omega)
  simp only [h, ↓reduceIte, inE_eq, x_bind, w1]
  by_cases h1 : 0 ≤ c ∧ c ≤ prodV vs - 1
  ·have d1 : decide (0 ≤ c ∧ c ≤ prodV vs - 1) = true := decide_eq_true h1
   rw [if_neg (show ¬ (c < 0 ∨ prodV vs ≤ c) by omega)]
   simp only [d1, ↓reduceIte]
   exact valuesOf_l0 vs rs hl ho hp vs.length 0 c [] (by omega) rfl h1.1 (by rw [List.drop_zero]; omega)
  ·have d1 : decide (0 ≤ c ∧ c ≤ prodV vs - 1) = false := decide_eq_false h1
   rw [if_pos (show c < 0 ∨ prodV vs ≤ c by omega)]
   simp only [d1, Bool.false_eq_true, ↓reduceIte]
   exact Ev.now _
 ·simp only [h, ↓reduceIte]
  exact Ev.now _
theorem pushS_app (n : Int) (s t : List Int) : pushS n (s ++ t) = (match pushS n t with | .error c => .error c | .ok u => .ok (s ++ u)) := by
 unfold pushS
 split <;> simp
theorem dropLast_app (s t : List Int) (h : 0 < t.length) : (s ++ t).dropLast = s ++ t.dropLast := List.dropLast_append_of_ne_nil (by intro e; rw [e] at h; simp at h)
theorem getLastD_app (s t : List Int) (h : 0 < t.length) : (s ++ t).getLastD 0 = t.getLastD 0 := by
 have hne : t ≠ [] := by intro e; rw [e] at h; simp at h
 rw [List.getLastD_eq_getLast?, List.getLastD_eq_getLast?, List.getLast?_append]
 cases h2 : t.getLast? with
 | none => exact absurd (List.getLast?_eq_none_iff.1 h2) hne
 | some x => rfl
theorem stepS_app (env : List Int) (o : POp) (s t : List Int) (h10 : o.f0 = 10 → 1 ≤ t.length) (h2 : ¬ (o.f0 = 1 ∨ o.f0 = 2 ∨ o.f0 = 11 ∨ o.f0 = 12 ∨ o.f0 = 10) → 2 ≤ t.length) : stepS env o (s ++ t) = (match stepS env o t with | .error c => .error c | .ok u => .ok (s ++ u)) := by
 unfold stepS
 by_cases k1 : o.f0 = 1
 ·simp only [if_pos k1]; exact pushS_app _ _ _
 by_cases k2 : o.f0 = 2
 ·simp only [if_neg k1, if_pos k2]; exact pushS_app _ _ _
 by_cases k3 : o.f0 = 11
 ·simp only [if_neg k1, if_neg k2, if_pos k3]; exact pushS_app _ _ _
 by_cases k4 : o.f0 = 12
 ·simp only [if_neg k1, if_neg k2, if_neg k3, if_pos k4]; exact pushS_app _ _ _
 by_cases k5 : o.f0 = 10
 ·simp only [if_neg k1, if_neg k2, if_neg k3, if_neg k4, if_pos k5]
  rw [dropLast_app _ _ (h10 k5), getLastD_app _ _ (h10 k5)]
  exact pushS_app _ _ _
 ·simp only [if_neg k1, if_neg k2, if_neg k3, if_neg k4, if_neg k5]
  have h := h2 (by omega)
  have hd : 0 < t.dropLast.length := by rw [List.length_dropLast]; omega
  rw [dropLast_app _ _ (by omega), getLastD_app _ _ (by omega), dropLast_app _ _ hd, getLastD_app _ _ hd]
  exact pushS_app _ _ _
theorem run_app (env : List Int) {n : Int} (r : List POp) : ∀ (l : List POp) (m : Nat), (∀ o ∈ l, fitE n o = 0) → scan l m = .ok [] → runS env (l ++ r) = (match runS env r with | .error c => .error c | .ok s => match runS env l with | .error c => .error c | .ok t => .ok (s ++ t))
 | [], m, hf, hs => by
  show runS env r = _
  cases runS env r <;> simp [runS]
 | o :: l, 0, hf, hs => by rw [scan_zero] at hs; cases hs
 | o :: l, m + 1, hf, hs => by
  rw [scan_cons] at hs
  split at hs
  ·rename_i hp
   have ih := run_app env r l _ (fun x hx => hf x (List.mem_cons_of_mem _ hx)) hs
   rw [List.cons_append, runS, ih]
   cases hr : runS env r with
   | error c => rfl
   | ok s =>
    cases hl : runS env l with
    | error c => simp [runS, hl]
    | ok t =>
     obtain ⟨k1, k2, k3⟩ := parts_of_kind hp (hf o (by simp))
     obtain ⟨a, _⟩ := run_len env l _ t (fun x hx => hf x (List.mem_cons_of_mem _ hx)) hs hl
     rw [k3] at a
     simp only [runS, hl]
     refine stepS_app env o s t (fun e => ?_) (fun e => ?_)
     ·rw [if_neg (by omega), if_pos e] at a; omega
     ·rw [if_neg (by omega), if_neg (by omega)] at a; omega
  ·cases hs
def res (n : Int) : Int × Int := if -1000000 ≤ n ∧ n ≤ 1000000 then (n, 0) else (0, 8)
def wOf (x : Except Int (List Int)) : Int × Int := match x with | .error c => (0, c) | .ok stk => (stk.getLastD 0, 0)
def workedS (env : List Int) (l : List POp) : Int × Int := wOf (runS env l)
theorem w_push (n : Int) (s : List Int) : wOf (pushS n s) = res n := by
 unfold pushS res
 by_cases c : n < -1000000 ∨ 1000000 < n
 ·rw [if_pos c, if_neg (by omega)]; rfl
 ·rw [if_neg c, if_pos (by omega)]
  show ((s ++ [n]).getLastD 0, (0 : Int)) = _
  simp
theorem j2_ev (n : Int) (b : Bool) : Ev (fun k => foretellref_worked.j2 k n b) (res (if b = true then 1 else n)) := by
 refine ev_succ ?_
 cases b
 ·simp only [foretellref_worked.j2, Bool.false_eq_true, if_false]
  refine ev_call (inE_eq _ _ _) ?_
  unfold res
  by_cases c : -1000000 ≤ n ∧ n ≤ 1000000
  ·rw [decide_eq_true c, if_pos c]; exact Ev.now _
  ·rw [decide_eq_false c, if_neg c]; exact Ev.now _
 ·simp only [foretellref_worked.j2, if_true]
  refine ev_call (inE_eq _ _ _) ?_
  exact Ev.now _
theorem rdT_zero (o : POp) (l : List POp) : rd_T73 (o :: l) 0 = o := rfl
theorem split_of {l : List POp} (h : one l) (hl : l.length ≤ 60) : splitS l = (partsL l, 0) := by unfold splitS; rw [endsS_of_one h hl]; rfl
theorem fin0 (o : POp) (env : List Int) (n : Int) (hf : fitE n o = 0) (hn : n = env.length) (a : arIs o 0) : Ev (fun k => foretellref_worked.l1 k [o] env [] [] (-1)) (wOf (stepS env o [])) := by
 obtain ⟨k1, k2, k3⟩ := parts_of_kind (by have : partsS o.f0 = (((0 : Nat) : Int), 0) := a; rw [this]) hf
 have hk : (partsS o.f0).1.toNat = 0 := by have : partsS o.f0 = (((0 : Nat) : Int), 0) := a; rw [this]; rfl
 rw [hk] at k3
 have hc : o.f0 = 1 ∨ o.f0 = 2 ∨ o.f0 = 11 ∨ o.f0 = 12 := by
  by_cases c : o.f0 = 1 ∨ o.f0 = 2 ∨ o.f0 = 11 ∨ o.f0 = 12
  ·exact c
  ·rw [if_neg c] at k3
   split at k3 <;> omega
 have hneg : ¬ ((-1 : Int) ≥ 0) := by omega
 have hpos : (0 : Int) < (([o] : List POp).length : Int) := by simp
 refine ev_succ ?_
 unfold stepS
 rcases hc with e | e | e | e
 ·simp only [foretellref_worked.l1, ↓reduceIte, hneg, hpos, rdT_zero, e, Int.reduceEq, w_push]
  exact j2_ev _ false
 ·have hv : 0 ≤ o.f1 ∧ o.f1 < (env.length : Int) := by
   unfold fitE at hf
   rw [if_neg (by omega), if_neg (by omega), if_pos e] at hf
   split at hf
   ·omega
   ·cases hf
  simp only [foretellref_worked.l1, ↓reduceIte, hneg, hpos, rdT_zero, e, Int.reduceEq, w_push, hv.1, hv.2]
  exact j2_ev _ false
 ·simp only [foretellref_worked.l1, ↓reduceIte, hneg, hpos, rdT_zero, e, Int.reduceEq, w_push]
  exact j2_ev 0 true
 ·simp only [foretellref_worked.l1, ↓reduceIte, hneg, hpos, rdT_zero, e, Int.reduceEq, w_push]
  exact j2_ev 0 false
theorem un_kind {o : POp} {n : Int} (hf : fitE n o = 0) (a : arIs o 1) : o.f0 = 10 := by
 have ha : partsS o.f0 = (((1 : Nat) : Int), 0) := a
 obtain ⟨k1, k2, k3⟩ := parts_of_kind (by rw [ha]) hf
 rw [ha] at k3
 by_cases c : o.f0 = 1 ∨ o.f0 = 2 ∨ o.f0 = 11 ∨ o.f0 = 12
 ·rw [if_pos c] at k3; cases k3
 ·rw [if_neg c] at k3
  by_cases d : o.f0 = 10
  ·exact d
  ·rw [if_neg d] at k3; cases k3
theorem bin_kind {o : POp} {n : Int} (hf : fitE n o = 0) (a : arIs o 2) : 3 ≤ o.f0 ∧ o.f0 ≤ 9 := by
 have ha : partsS o.f0 = (((2 : Nat) : Int), 0) := a
 obtain ⟨k1, k2, k3⟩ := parts_of_kind (by rw [ha]) hf
 rw [ha] at k3
 by_cases c : o.f0 = 1 ∨ o.f0 = 2 ∨ o.f0 = 11 ∨ o.f0 = 12
 ·rw [if_pos c] at k3; cases k3
 ·rw [if_neg c] at k3
  by_cases d : o.f0 = 10
  ·rw [if_pos d] at k3; cases k3
  ·omega
theorem fin1 (o : POp) (p : List POp) (env : List Int) (ps : List (List POp)) (x : Int) (hk : o.f0 = 10) (hx : x = 0 ∨ x = 1) : Ev (fun k => foretellref_worked.l1 k (o :: p) env ps [x] (-1)) (wOf (stepS env o [x])) := by
 have hneg : ¬ ((-1 : Int) ≥ 0) := by omega
 have hpos : (0 : Int) < ((o :: p).length : Int) := by rw [List.length_cons]; omega
 have h1 : (0 : Int) < (([x] : List Int).length : Int) := by simp
 have hr : rd [x] 0 = x := rfl
 refine ev_succ ?_
 unfold stepS
 simp only [foretellref_worked.l1, ↓reduceIte, hneg, hpos, rdT_zero, hk, Int.reduceEq, w_push, h1, hr]
 rcases hx with rfl | rfl
 ·exact j2_ev 0 true
 ·exact j2_ev 0 false
theorem and01 {a b : Int} (ha : a = 0 ∨ a = 1) (hb : b = 0 ∨ b = 1) : Go.bits .and .i64 a b = (if a = 1 ∧ b = 1 then 1 else 0) ∧ Go.bits .or .i64 a b = (if a = 1 ∨ b = 1 then 1 else 0) := by
 rcases ha with rfl | rfl <;> rcases hb with rfl | rfl <;> decide +kernel
theorem fin2 (o : POp) (p : List POp) (env : List Int) (ps : List (List POp)) (a b : Int) (hk : 3 ≤ o.f0 ∧ o.f0 ≤ 9) (ha : -1000000 ≤ a ∧ a ≤ 1000000) (hb : -1000000 ≤ b ∧ b ≤ 1000000) (h01 : 8 ≤ o.f0 → (a = 0 ∨ a = 1) ∧ (b = 0 ∨ b = 1)) :
  Ev (fun k => foretellref_worked.l1 k (o :: p) env ps [a, b] (-1)) (wOf (stepS env o [b, a])) := by
 have hneg : ¬ ((-1 : Int) ≥ 0) := by omega
 have hpos : (0 : Int) < ((o :: p).length : Int) := by rw [List.length_cons]; omega
 have h1 : (0 : Int) < (([a, b] : List Int).length : Int) := by simp
 have h2 : (1 : Int) < (([a, b] : List Int).length : Int) := by simp
 have hr : rd [a, b] 0 = a := rfl
 have hr1 : rd [a, b] 1 = b := rfl
 have hm : (a * b).natAbs ≤ 1000000 * 1000000 := by rw [Int.natAbs_mul]; exact Nat.mul_le_mul (by omega) (by omega)
 have e1 : wrap64 (a + b) = a + b := wrap_id (by omega) (by omega)
 have e2 : wrap64 (a - b) = a - b := wrap_id (by omega) (by omega)
 have e3 : wrap64 (a * b) = a * b := wrap_id (by omega) (by omega)
 have hs : stepS env o [b, a] = pushS (doVal o.f0 a b) [] := by
  unfold stepS
  rw [if_neg (by omega), if_neg (by omega), if_neg (by omega), if_neg (by omega), if_neg (by omega)]
  rfl
 have ff : ((false : Bool) = true) = False := by simp
 rw [hs, w_push]
 refine ev_succ ?_
 have : o.f0 = 3 ∨ o.f0 = 4 ∨ o.f0 = 5 ∨ o.f0 = 6 ∨ o.f0 = 7 ∨ o.f0 = 8 ∨ o.f0 = 9 := by omega
 rcases this with e | e | e | e | e | e | e
 ·simp only [foretellref_worked.l1, ↓reduceIte, hneg, hpos, rdT_zero, e, Int.reduceEq, h1, h2, hr, hr1, e1, doVal]
  exact j2_ev _ false
 ·simp only [foretellref_worked.l1, ↓reduceIte, hneg, hpos, rdT_zero, e, Int.reduceEq, h1, h2, hr, hr1, e2, doVal]
  exact j2_ev _ false
 ·simp only [foretellref_worked.l1, ↓reduceIte, hneg, hpos, rdT_zero, e, Int.reduceEq, h1, h2, hr, hr1, e3, doVal]
  exact j2_ev _ false
 ·simp only [foretellref_worked.l1, ↓reduceIte, hneg, hpos, rdT_zero, e, Int.reduceEq, h1, h2, hr, hr1, doVal]
  refine ev_eq (j2_ev 0 (a == b)) ?_
  by_cases c : a = b
  ·rw [if_pos c, if_pos (beq_iff_eq.2 c)]
  ·rw [if_neg c, if_neg (by simpa using c)]
 ·simp only [foretellref_worked.l1, ↓reduceIte, hneg, hpos, rdT_zero, e, Int.reduceEq, h1, h2, hr, hr1, doVal]
  refine ev_eq (j2_ev 0 (decide (a < b))) ?_
  by_cases c : a < b
  ·rw [if_pos c, if_pos (decide_eq_true c)]
  ·rw [if_neg c, if_neg (by simpa using c)]
 ·obtain ⟨qa, qb⟩ := h01 (by omega)
  simp only [foretellref_worked.l1, ↓reduceIte, hneg, hpos, rdT_zero, e, Int.reduceEq, h1, h2, hr, hr1, doVal, (and01 qa qb).1]
  rcases qa with rfl | rfl
  ·simp only [↓reduceIte, Int.reduceEq, false_and]
   exact j2_ev 0 false
  ·rcases qb with rfl | rfl
   ·exact j2_ev 0 false
   ·exact j2_ev 0 true
 ·obtain ⟨qa, qb⟩ := h01 (by omega)
  simp only [foretellref_worked.l1, ↓reduceIte, hneg, hpos, rdT_zero, e, Int.reduceEq, h1, h2, hr, hr1, doVal, (and01 qa qb).2]
  rcases qa with rfl | rfl
  ·rcases qb with rfl | rfl
   ·exact j2_ev 0 false
   ·exact j2_ev 0 true
  ·simp only [↓reduceIte, true_or]
   exact j2_ev 0 true
def truthy (env : List Int) (l : List POp) : Prop := mkH l = true → ∀ stk, runS env l = .ok stk → stk.getLastD 0 = 0 ∨ stk.getLastD 0 = 1
theorem run_one (env : List Int) {n : Int} {l : List POp} (h1 : one l) (hf : ∀ o ∈ l, fitE n o = 0) {stk : List Int} (h : runS env l = .ok stk) : ∃ x, stk = [x] ∧ -1000000 ≤ x ∧ x ≤ 1000000 := by
 obtain ⟨a, b⟩ := run_len env l 1 stk hf h1 h
 match stk, a with
 | [x], _ => exact ⟨x, rfl, b x (by simp)⟩
theorem run_err_ne (env : List Int) : ∀ (l : List POp) (c : Int), runS env l = .error c → c ≠ 0
 | [], c, h => by cases h
 | o :: l, c, h => by
  unfold runS at h
  split at h
  ·rename_i c' hr
   cases h
   exact run_err_ne env l _ hr
  ·rename_i s hr
   obtain ⟨n, s', e, _⟩ := stepS_cases env o s
   rw [e] at h
   rw [pushS_err h]
   decide
theorem worked_ev (env : List Int) (n : Int) (hn : n = env.length) : ∀ l, one l → (∀ o ∈ l, fitE n o = 0) → typB l = true → l.length ≤ 60 → Ev (fun k => foretellref_worked.f k l env) (workedS env l) ∧ truthy env l := by
 refine one_ind ?_ ?_ ?_
 ·intro o a hf ht hl
  refine ⟨?_, ?_⟩
  ·refine ev_succ ?_
   simp only [foretellref_worked.f]
   refine ev_bind (ev_eq (splitOf_ev [o]) (split_of (one_leaf a) (by simp))) ?_
   rw [partsL_leaf a]
   refine ev_succ ?_
   have h0 : ¬ ((0 : Int) < (([] : List (List POp)).length : Int)) := by simp
   have w0 : wrap64 ((([] : List (List POp)).length : Int) - 1) = -1 := by simp [wrap64]
   simp only [foretellref_worked.l0, ↓reduceIte, h0, w0]
   exact fin0 o env n (hf o (by simp)) hn a
  ·intro hm stk hs
   have hk : decide (6 ≤ o.f0 ∧ o.f0 ≤ 12) = true := hm
   have hk := of_decide_eq_true hk
   have hfo := hf o (by simp)
   have ha : partsS o.f0 = (((0 : Nat) : Int), 0) := a
   obtain ⟨k1, k2, k3⟩ := parts_of_kind (by rw [ha]) hfo
   rw [ha] at k3
   have hs : stepS env o [] = .ok stk := hs
   by_cases c : o.f0 = 11
   ·unfold stepS at hs
    rw [if_neg (by omega), if_neg (by omega), if_pos c] at hs
    obtain ⟨rfl, _⟩ := pushS_ok hs
    exact .inr rfl
   ·have c2 : o.f0 = 12 := by
     by_cases d : o.f0 = 1 ∨ o.f0 = 2 ∨ o.f0 = 11 ∨ o.f0 = 12
     ·omega
     ·rw [if_neg d] at k3
      split at k3 <;> cases k3
    unfold stepS at hs
    rw [if_neg (by omega), if_neg (by omega), if_neg c, if_pos c2] at hs
    obtain ⟨rfl, _⟩ := pushS_ok hs
    exact .inl rfl
 ·intro o p a hp ih hf ht hl
  have hfo := hf o (by simp)
  have hfp : ∀ x ∈ p, fitE n x = 0 := fun x hx => hf x (List.mem_cons_of_mem _ hx)
  have hk := un_kind hfo a
  rw [typB_un a hp, fitsAt_zero, partsL_un a hp, Bool.and_eq_true] at ht
  obtain ⟨ht1, ht2⟩ := ht
  have hmk : mkH p = true := by
   have : (mkH p == tk o.f0) = true := by simpa using ht1
   rw [beq_iff_eq.1 this]
   exact decide_eq_true (by omega)
  obtain ⟨ih1, ih2⟩ := ih hfp ht2 (by simp at hl; omega)
  have hrun : runS env (o :: p) = (match runS env p with | .error c => .error c | .ok stk => stepS env o stk) := rfl
  refine ⟨?_, ?_⟩
  ·refine ev_succ ?_
   simp only [foretellref_worked.f]
   refine ev_bind (ev_eq (splitOf_ev (o :: p)) (split_of (one_un a hp) hl)) ?_
   rw [partsL_un a hp]
   have h0 : (0 : Int) < (([p] : List (List POp)).length : Int) := by simp
   have h1 : ¬ ((1 : Int) < (([p] : List (List POp)).length : Int)) := by simp
   have w0 : wrap64 (0 + 1) = 1 := by simp [wrap64]
   have w1 : wrap64 ((([p] : List (List POp)).length : Int) - 1) = 0 := by simp [wrap64]
   have w2 : wrap64 (0 - 1) = -1 := by simp [wrap64]
   have l0 : ([] : List Int).length < 17592186044416 := by decide
   have l1 : (0 : Int) < ((([] : List Int) ++ [0]).length : Int) := by decide
   have g0 : (0 : Int) ≥ 0 := by decide
   have gp : rd_L4 [p] 0 = p := rfl
   refine ev_succ (ev_succ ?_)
   simp only [foretellref_worked.l0, ↓reduceIte, h0, h1, w0, w1, l0]
   refine ev_succ ?_
   simp only [foretellref_worked.l1, ↓reduceIte, g0, h0, gp, Int.le_refl]
   refine ev_bind ih1 ?_
   unfold workedS
   rw [hrun]
   cases hr : runS env p with
   | error c =>
    have hc : c ≠ 0 := run_err_ne env p c hr
    simp only [wOf, hc, ↓reduceIte]
    exact Ev.now _
   | ok stk =>
    obtain ⟨x, rfl, hx⟩ := run_one env hp hfp hr
    have hx01 := ih2 hmk _ hr
    have hx01 : x = 0 ∨ x = 1 := hx01
    simp only [wOf, ↓reduceIte, l1, w2]
    exact fin1 o p env [p] x hk hx01
  ·intro hm stk hs
   rw [hrun] at hs
   cases hr : runS env p with
   | error c => rw [hr] at hs; cases hs
   | ok s =>
    rw [hr] at hs
    obtain ⟨x, rfl, hx⟩ := run_one env hp hfp hr
    have hx01 : x = 0 ∨ x = 1 := ih2 hmk _ hr
    have hs : stepS env o [x] = .ok stk := hs
    unfold stepS at hs
    rw [if_neg (by omega), if_neg (by omega), if_neg (by omega), if_neg (by omega), if_pos hk] at hs
    obtain ⟨rfl, _⟩ := pushS_ok hs
    show (1 - x = 0 ∨ 1 - x = 1)
    omega
 ·intro o p q a hp hq ihp ihq hf ht hl
  have hfo := hf o (by simp)
  have hfp : ∀ x ∈ p, fitE n x = 0 := fun x hx => hf x (by simp [hx])
  have hfq : ∀ x ∈ q, fitE n x = 0 := fun x hx => hf x (by simp [hx])
  have hk := bin_kind hfo a
  rw [typB_bin a hp hq, fitsAt_zero, partsL_bin a hp hq, Bool.and_eq_true, Bool.and_eq_true] at ht
  obtain ⟨ht1, ht2, ht3⟩ := ht
  have hmk : 8 ≤ o.f0 → mkH p = true ∧ mkH q = true := by
   intro h8
   have : (mkH p == tk o.f0) = true ∧ (mkH q == tk o.f0) = true := by simpa using ht1
   rw [beq_iff_eq.1 this.1, beq_iff_eq.1 this.2]
   exact ⟨decide_eq_true (by omega), decide_eq_true (by omega)⟩
  simp at hl
  obtain ⟨ihp1, ihp2⟩ := ihp hfp ht2 (by omega)
  obtain ⟨ihq1, ihq2⟩ := ihq hfq ht3 (by omega)
  have hrun : runS env (o :: (p ++ q)) = (match runS env q with | .error c => .error c | .ok s => match runS env p with | .error c => .error c | .ok t => stepS env o (s ++ t)) := by
   rw [runS, run_app env q p 1 hfp hp]
   cases runS env q with
   | error c => rfl
   | ok s => cases runS env p <;> rfl
  refine ⟨?_, ?_⟩
  ·refine ev_succ ?_
   simp only [foretellref_worked.f]
   refine ev_bind (ev_eq (splitOf_ev (o :: (p ++ q))) (split_of (one_bin a hp hq) (by simp; omega))) ?_
   rw [partsL_bin a hp hq]
   have h0 : (0 : Int) < (([p, q] : List (List POp)).length : Int) := by simp
   have h1 : (1 : Int) < (([p, q] : List (List POp)).length : Int) := by simp
   have h2 : ¬ ((2 : Int) < (([p, q] : List (List POp)).length : Int)) := by simp
   have w0 : wrap64 (0 + 1) = 1 := by simp [wrap64]
   have w0' : wrap64 (1 + 1) = 2 := by simp [wrap64]
   have w1 : wrap64 ((([p, q] : List (List POp)).length : Int) - 1) = 1 := by simp [wrap64]
   have w2 : wrap64 (0 - 1) = -1 := by simp [wrap64]
   have w3 : wrap64 (1 - 1) = 0 := by simp [wrap64]
   have l0 : ([] : List Int).length < 17592186044416 := by decide
   have l0' : (([] : List Int) ++ [0]).length < 17592186044416 := by decide
   have l1 : (1 : Int) < ((([] : List Int) ++ [0] ++ [0]).length : Int) := by decide
   have l2 : ∀ b : Int, (0 : Int) < (((([] : List Int) ++ [0] ++ [0]).set (1 : Int).toNat b).length : Int) := fun b => by simp
   have g0 : (0 : Int) ≥ 0 := by decide
   have g1 : (1 : Int) ≥ 0 := by decide
   have g1' : (0 : Int) ≤ 1 := by decide
   have gp : rd_L4 [p, q] 0 = p := rfl
   have gq : rd_L4 [p, q] 1 = q := rfl
   refine ev_succ (ev_succ (ev_succ ?_))
   simp only [foretellref_worked.l0, ↓reduceIte, h0, h1, h2, w0, w0', w1, l0, l0']
   refine ev_succ ?_
   simp only [foretellref_worked.l1, ↓reduceIte, g1, g1', h1, gq]
   refine ev_bind ihq1 ?_
   unfold workedS
   rw [hrun]
   cases hrq : runS env q with
   | error c =>
    have hc : c ≠ 0 := run_err_ne env q c hrq
    simp only [wOf, hc, ↓reduceIte]
    exact Ev.now _
   | ok s =>
    obtain ⟨b, rfl, hb⟩ := run_one env hq hfq hrq
    simp only [wOf, ↓reduceIte, l1, w3]
    refine ev_succ ?_
    simp only [foretellref_worked.l1, ↓reduceIte, g0, h0, gp, Int.le_refl]
    refine ev_bind ihp1 ?_
    unfold workedS
    cases hrp : runS env p with
    | error c =>
     have hc : c ≠ 0 := run_err_ne env p c hrp
     simp only [wOf, hc, ↓reduceIte]
     exact Ev.now _
    | ok t =>
     obtain ⟨x, rfl, hx⟩ := run_one env hp hfp hrp
     simp only [wOf, ↓reduceIte, l2, w2]
     exact fin2 o (p ++ q) env [p, q] x b hk hx hb (fun h8 => ⟨ihp2 (hmk h8).1 _ hrp, ihq2 (hmk h8).2 _ hrq⟩)
  ·intro hm stk hs
   rw [hrun] at hs
   cases hrq : runS env q with
   | error c => rw [hrq] at hs; cases hs
   | ok s =>
    cases hrp : runS env p with
    | error c => rw [hrq, hrp] at hs; cases hs
    | ok t =>
     rw [hrq, hrp] at hs
     obtain ⟨b, rfl, hb⟩ := run_one env hq hfq hrq
     obtain ⟨x, rfl, hx⟩ := run_one env hp hfp hrp
     have hs : stepS env o [b, x] = .ok stk := hs
     have hk6 : decide (6 ≤ o.f0 ∧ o.f0 ≤ 12) = true := hm
     have hk6 := of_decide_eq_true hk6
     unfold stepS at hs
     rw [if_neg (by omega), if_neg (by omega), if_neg (by omega), if_neg (by omega), if_neg (by omega)] at hs
     obtain ⟨rfl, _⟩ := pushS_ok hs
     show (doVal o.f0 x b = 0 ∨ doVal o.f0 x b = 1)
     unfold doVal
     rw [if_neg (by omega), if_neg (by omega), if_neg (by omega)]
     by_cases c6 : o.f0 = 6
     ·rw [if_pos c6]; split <;> simp
     rw [if_neg c6]
     by_cases c7 : o.f0 = 7
     ·rw [if_pos c7]; split <;> simp
     rw [if_neg c7]
     have q1 : x = 0 ∨ x = 1 := ihp2 (hmk (by omega)).1 _ hrp
     have q2 : b = 0 ∨ b = 1 := ihq2 (hmk (by omega)).2 _ hrq
     rw [(and01 q1 q2).1, (and01 q1 q2).2]
     split <;> split <;> simp
theorem evaluated_loop (l : List POp) (env : List Int) (hm : env.length ≤ 6) (h : Ev (fun k => foretellref_worked.f k l env) (workedS env l)) (d : Nat) : ∀ i : Nat, i + d = env.length →
  Ev (fun k => foretellref_Evaluated.l0 k l env i) (if (env.drop i).all inR = true then workedS env l else (0, 2)) := by
 induction d with
 | zero =>
  intro i hi
  rw [List.drop_of_length_le (by omega)]
  refine ev_succ ?_
  simp (disch := omega) only [foretellref_Evaluated.l0, if_neg, List.all_nil, if_true]
  exact ev_bind h (Ev.now _)
 | succ d ih =>
  intro i hi
  have hlt : i < env.length := by omega
  rw [List.drop_eq_getElem_cons hlt, List.all_cons]
  refine ev_succ ?_
  have c1 : (i : Int) < env.length := by omega
  have c2 : (0 : Int) ≤ (i : Int) := by omega
  have w1 : wrap64 ((i : Int) + 1) = (i : Int) + 1 := wrap_id (by omega) (by omega)
  simp only [foretellref_Evaluated.l0, ↓reduceIte, c1, c2, w1, rd_get env i hlt]
  refine ev_call (inE_eq _ _ _) ?_
  by_cases c : -1000000 ≤ env[i] ∧ env[i] ≤ 1000000
  ·have hi : inR env[i] = true := decide_eq_true c
   rw [decide_eq_true c, hi, Bool.true_and]
   simp only [↓reduceIte]
   exact ih (i + 1) (by omega)
  ·have hi : inR env[i] = false := decide_eq_false c
   rw [decide_eq_false c, hi, Bool.false_and]
   exact Ev.now _
theorem evaluated_ev (l : List POp) (env : List Int) (hm : env.length ≤ 9223372036854775807) : Ev (fun k => foretellref_Evaluated.f k l env) (evalS l env) := by
 unfold foretellref_Evaluated.f evalS
 refine ev_bind (exprChecked_ev l env.length ⟨by omega, by omega⟩) ?_
 by_cases h : (exprS l env.length).2 = 0
 ·simp only [if_pos h]
  obtain ⟨⟨e0, e6⟩, h1, h60, hf, ht, _⟩ := exprS_ok h
  have hw := (worked_ev env env.length rfl l h1 hf ht h60).1
  have := evaluated_loop l env (by omega) hw env.length 0 (by omega)
  exact this
 ·simp only [if_neg h]
  exact Ev.now _
end Go.Proofs.YtbekikafhpdehaaDoor.Pure
