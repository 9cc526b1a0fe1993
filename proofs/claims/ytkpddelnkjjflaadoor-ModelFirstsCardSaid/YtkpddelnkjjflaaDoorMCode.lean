/- Codes of values. Plain Lean over the printed functions. -/
import Derived.Test.YtkpddelnkjjflaaDoorMBehind
import Derived.Test.YtkpddelnkjjflaaDoorMx10
import Derived.Test.YtkpddelnkjjflaaDoorMx10
namespace Go.Proofs.YtkpddelnkjjflaaDoor.Pure
open Go.RowKit Go.Proofs.YtkpddelnkjjflaaDoor Go.Proofs.YtkpddelnkjjflaaDoor.M Go.Proofs.YtkpddelnkjjflaaDoor.Base Go.Proofs.YtkpddelnkjjflaaDoorW.PrintWords Go.Proofs.YtkpddelnkjjflaaDoorW.PrintLast Go.Proofs.YtkpddelnkjjflaaDoorW.PrintMore
set_option linter.unusedVariables false
set_option linter.unusedSimpArgs false
/-! ### codes -/
def encR : List PVar → List Int → Option Int
 | v :: vs, x :: xs => if x < v.f1 ∨ v.f2 < x then none else (encR vs xs).map fun n => (x - v.f1) * prodV vs + n
 | _, _ => some 0
def encP (a : Int) (p : Int) (r : Option Int) : Int × Int := match r with | none => (0, 9) | some n => (a * p + n, 0)
theorem encP_step (a x p : Int) (v : PVar) (r : Option Int) : encP a ((v.f2 - v.f1 + 1) * p) (r.map fun n => (x - v.f1) * p + n) = encP (a * (v.f2 - v.f1 + 1) + x - v.f1) p r := by
 cases r with
 | none => rfl
 | some n =>
  simp only [encP, Option.map_some, Prod.mk.injEq, and_true]
  generalize v.f2 - v.f1 + 1 = S
  rw [Int.sub_mul, Int.sub_mul, Int.add_mul, Int.mul_assoc]
  omega
theorem code_l0 (vs : List PVar) (hv : vs.length ≤ 6) (ho : ∀ v ∈ vs, VOk v) (xs : List Int) (hx : xs.length = vs.length) (d : Nat) : ∀ (i : Nat) (a : Int), i + d = vs.length → 0 ≤ a → (a + 1) * prodV (vs.drop i) ≤ 4096 →
  Ev (fun k => model_Code.l0 k xs a vs (vs.length : Int) i) (encP a (prodV (vs.drop i)) (encR (vs.drop i) (xs.drop i))) := by
 induction d with
 | zero =>
  intro i a hi ha hp
  rw [List.drop_of_length_le (by omega), List.drop_of_length_le (by omega)]
  have c1 : ¬ (i : Int) < (vs.length : Int) := by omega
  refine ev_succ ?_
  simp only [model_Code.l0, ↓reduceIte, c1, encR, encP, prodV, Int.mul_one, Int.add_zero]
  exact Ev.now _
 | succ d ih =>
  intro i a hi ha hp
  have hil : i < vs.length := by omega
  have hxl : i < xs.length := by omega
  have c1 : (i : Int) < (vs.length : Int) := by omega
  have c2 : (0 : Int) ≤ (i : Int) := by omega
  have c3 : (i : Int) < (xs.length : Int) := by omega
  have w1 : wrap64 ((i : Int) + 1) = ((i + 1 : Nat) : Int) := by rw [wrap_id (by omega) (by omega)]; rfl
  have hvi := ho _ (List.getElem_mem hil)
  rw [List.drop_eq_getElem_cons hil] at hp ⊢
  rw [List.drop_eq_getElem_cons hxl, encR]
  obtain ⟨p1, p2, p3⟩ := part_prod (a := a + 1) (by omega) hvi (drop_ok ho _) hp
  have e : (a + 1) * (vs[i].f2 - vs[i].f1 + 1) = a * (vs[i].f2 - vs[i].f1 + 1) + (vs[i].f2 - vs[i].f1 + 1) := by rw [Int.add_mul, Int.one_mul]
  have hs1 : 0 ≤ a * (vs[i].f2 - vs[i].f1 + 1) := Int.mul_nonneg ha (by unfold VOk at hvi; omega)
  refine ev_succ ?_
  by_cases b1 : xs[i] < vs[i].f1
  ·rw [if_pos (.inl b1)]
   simp only [model_Code.l0, ↓reduceIte, c1, c2, c3, rdV_get vs i hil, rd_get xs i hxl, b1]
   exact Ev.now _
  by_cases b2 : xs[i] > vs[i].f2
  ·rw [if_pos (.inr b2)]
   simp only [model_Code.l0, ↓reduceIte, c1, c2, c3, rdV_get vs i hil, rd_get xs i hxl, b1, b2]
   exact Ev.now _
  rw [if_neg (by omega)]
  have hvi' := hvi
  unfold VOk at hvi'
  have w2 : wrap64 (a * (vs[i].f2 - vs[i].f1 + 1)) = a * (vs[i].f2 - vs[i].f1 + 1) := wrap_id (by omega) (by omega)
  have w3 : wrap64 (a * (vs[i].f2 - vs[i].f1 + 1) + xs[i]) = a * (vs[i].f2 - vs[i].f1 + 1) + xs[i] := wrap_id (by omega) (by omega)
  have w4 : wrap64 (a * (vs[i].f2 - vs[i].f1 + 1) + xs[i] - vs[i].f1) = a * (vs[i].f2 - vs[i].f1 + 1) + xs[i] - vs[i].f1 := wrap_id (by omega) (by omega)
  simp only [model_Code.l0, ↓reduceIte, c1, c2, c3, rdV_get vs i hil, rd_get xs i hxl, b1, b2, w1, span_wrap hvi, w2, w3, w4]
  rw [prodV_cons, encP_step]
  refine ih (i + 1) _ (by omega) (by omega) ?_
  have hpr := prodV_pos (drop_ok ho (i + 1))
  have : (a * (vs[i].f2 - vs[i].f1 + 1) + xs[i] - vs[i].f1 + 1) * prodV (vs.drop (i + 1)) ≤ (a + 1) * (vs[i].f2 - vs[i].f1 + 1) * prodV (vs.drop (i + 1)) := Int.mul_le_mul (by omega) (Int.le_refl _) (by omega) (by omega)
  omega
theorem encR_bd : ∀ (vs : List PVar) (xs : List Int), (∀ v ∈ vs, VOk v) → xs.length = vs.length → ∀ n, encR vs xs = some n → 0 ≤ n ∧ n < prodV vs
 | [], xs, _, _, n, h => by
  simp only [encR, Option.some.injEq] at h
  subst h
  unfold prodV
  decide
 | v :: vs, [], _, hl, n, h => by simp at hl
 | v :: vs, x :: xs, ho, hl, n, h => by
  unfold encR at h
  split at h
  ·cases h
  rename_i hb
  obtain ⟨m, hm, rfl⟩ := Option.map_eq_some_iff.1 h
  obtain ⟨m0, m1⟩ := encR_bd vs xs (fun u hu => ho u (by simp [hu])) (by simpa using hl) m hm
  have hpr := prodV_pos (l := vs) (fun u hu => ho u (by simp [hu]))
  have h0 : 0 ≤ (x - v.f1) * prodV vs := Int.mul_nonneg (by omega) (by omega)
  have h1 : (x - v.f1 + 1) * prodV vs ≤ (v.f2 - v.f1 + 1) * prodV vs := Int.mul_le_mul (by omega) (Int.le_refl _) (by omega) (by omega)
  rw [Int.add_mul, Int.one_mul] at h1
  rw [prodV_cons]
  omega
theorem codeOf_l0 (vs : List PVar) (rs : List PRule) (hv : vs.length ≤ 6) (ho : ∀ v ∈ vs, VOk v) (hp0 : prodV vs ≤ 4096) (xs : List Int) (hx : xs.length = vs.length) (d : Nat) : ∀ (i : Nat) (a : Int), i + d = vs.length → 0 ≤ a → a + prodV (vs.drop i) ≤ 4096 →
  Ev (fun k => foretellref_CodeOf.l0 k xs a i vs rs) (encP a 1 (encR (vs.drop i) (xs.drop i))) := by
 induction d with
 | zero =>
  intro i a hi ha hp
  rw [List.drop_of_length_le (by omega), List.drop_of_length_le (by omega)]
  have c1 : ¬ (i : Int) < (xs.length : Int) := by omega
  refine ev_succ ?_
  simp only [foretellref_CodeOf.l0, ↓reduceIte, c1, encR, encP, prodV, Int.mul_one, Int.add_zero]
  exact Ev.now _
 | succ d ih =>
  intro i a hi ha hp
  have hil : i < vs.length := by omega
  have hxl : i < xs.length := by omega
  have c1 : (i : Int) < (vs.length : Int) := by omega
  have c2 : (0 : Int) ≤ (i : Int) := by omega
  have c3 : (i : Int) < (xs.length : Int) := by omega
  have w1 : wrap64 ((i : Int) + 1) = ((i + 1 : Nat) : Int) := by rw [wrap_id (by omega) (by omega)]; rfl
  have hvi := ho _ (List.getElem_mem hil)
  rw [List.drop_eq_getElem_cons hil] at hp ⊢
  rw [List.drop_eq_getElem_cons hxl, encR]
  refine ev_succ ?_
  by_cases b1 : vs[i].f1 ≤ xs[i] ∧ xs[i] ≤ vs[i].f2
  case neg =>
   have d1 : decide (vs[i].f1 ≤ xs[i] ∧ xs[i] ≤ vs[i].f2) = false := decide_eq_false b1
   rw [if_pos (by omega)]
   simp only [foretellref_CodeOf.l0, ↓reduceIte, c1, c2, c3, rdV_get vs i hil, rd_get xs i hxl, inE_eq, x_bind, d1, Bool.false_eq_true]
   exact Ev.now _
  have d1 : decide (vs[i].f1 ≤ xs[i] ∧ xs[i] ≤ vs[i].f2) = true := decide_eq_true b1
  rw [if_neg (by omega)]
  simp only [foretellref_CodeOf.l0, ↓reduceIte, c1, c2, c3, rdV_get vs i hil, rd_get xs i hxl, inE_eq, x_bind, d1]
  refine ev_bind (behind_ev vs rs hv ho hp0 (i + 1) (by omega) (i : Int) (by omega)) ?_
  have hpr := prodV_pos (drop_ok ho (i + 1))
  have hvi' := hvi
  unfold VOk at hvi'
  rw [prodV_cons] at hp
  have h0 : 0 ≤ (xs[i] - vs[i].f1) * prodV (vs.drop (i + 1)) := Int.mul_nonneg (by omega) (by omega)
  have h1 : (xs[i] - vs[i].f1 + 1) * prodV (vs.drop (i + 1)) ≤ (vs[i].f2 - vs[i].f1 + 1) * prodV (vs.drop (i + 1)) := Int.mul_le_mul (by omega) (Int.le_refl _) (by omega) (by omega)
  rw [Int.add_mul, Int.one_mul] at h1
  have w2 : wrap64 (xs[i] - vs[i].f1) = xs[i] - vs[i].f1 := wrap_id (by omega) (by omega)
  have w3 : wrap64 ((xs[i] - vs[i].f1) * prodV (vs.drop (i + 1))) = (xs[i] - vs[i].f1) * prodV (vs.drop (i + 1)) := wrap_id (by omega) (by omega)
  have w4 : wrap64 (a + (xs[i] - vs[i].f1) * prodV (vs.drop (i + 1))) = a + (xs[i] - vs[i].f1) * prodV (vs.drop (i + 1)) := wrap_id (by omega) (by omega)
  simp only [w1, w2, w3, w4]
  refine ev_eq (ih (i + 1) _ (by omega) (by omega) (by omega)) ?_
  cases encR (vs.drop (i + 1)) (xs.drop (i + 1)) with
  | none => rfl
  | some n => simp only [encP, Option.map_some, Int.mul_one, Int.add_assoc]
def codeS (vs : List PVar) (rs : List PRule) (xs : List Int) : Int × Int := if modelS vs rs = 0 then (if xs.length = vs.length then encP 0 1 (encR vs xs) else (0, 9)) else (0, modelS vs rs)
theorem encP_zero (p : Int) (r : Option Int) : encP 0 p r = encP 0 1 r := by
 cases r with
 | none => rfl
 | some n => simp only [encP, Int.zero_mul]
theorem code_ev (vs : List PVar) (rs : List PRule) (xs : List Int) : Ev (fun k => model_Code.f k vs rs xs) (codeS vs rs xs) := by
 unfold model_Code.f codeS
 refine ev_bind (modelCheck_ev vs rs) ?_
 by_cases h : modelS vs rs = 0
 ·obtain ⟨ho, hp⟩ := vars_ok (modelS_vars h)
  simp only [h, ↓reduceIte]
  by_cases h2 : xs.length = vs.length
  ·have c1 : (xs.length : Int) = (vs.length : Int) := by omega
   simp only [h2, ↓reduceIte]
   have := code_l0 vs (modelS_len h) ho xs h2 vs.length 0 0 (by omega) (Int.le_refl _) (by rw [Int.zero_add, Int.one_mul]; exact hp)
   rw [encP_zero] at this
   exact this
  ·have c1 : ¬ (xs.length : Int) = (vs.length : Int) := by omega
   simp only [h2, c1, ↓reduceIte]
   exact Ev.now _
 ·simp only [h, ↓reduceIte]
  exact Ev.now _
theorem codeOf_ev (vs : List PVar) (rs : List PRule) (xs : List Int) : Ev (fun k => foretellref_CodeOf.f k vs rs xs) (codeS vs rs xs) := by
 unfold foretellref_CodeOf.f codeS
 refine ev_bind (modelFault_ev vs rs) ?_
 by_cases h : modelS vs rs = 0
 ·obtain ⟨ho, hp⟩ := vars_ok (modelS_vars h)
  simp only [h, ↓reduceIte]
  by_cases h2 : xs.length = vs.length
  ·have c1 : (xs.length : Int) = (vs.length : Int) := by omega
   simp only [h2, ↓reduceIte]
   exact codeOf_l0 vs rs (modelS_len h) ho hp xs h2 vs.length 0 0 (by omega) (Int.le_refl _) (by rw [Int.zero_add]; exact hp)
  ·have c1 : ¬ (xs.length : Int) = (vs.length : Int) := by omega
   simp only [h2, c1, ↓reduceIte]
   exact Ev.now _
 ·simp only [h, ↓reduceIte]
  exact Ev.now _
end Go.Proofs.YtkpddelnkjjflaaDoor.Pure
