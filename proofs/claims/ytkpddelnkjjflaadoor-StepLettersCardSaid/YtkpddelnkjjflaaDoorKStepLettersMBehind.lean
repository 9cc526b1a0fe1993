-- Cut by a program of this session (wip/prune.py) from a longer text: declarations that the law does not need are left out.
import Derived.Test.YtkpddelnkjjflaaDoorKStepLettersMModel
import Derived.Test.YtkpddelnkjjflaaDoorKStepLettersMx5
namespace Go.Proofs.YtkpddelnkjjflaaDoor.Pure
open Go.RowKit Go.Proofs.YtkpddelnkjjflaaDoor Go.Proofs.YtkpddelnkjjflaaDoor.M Go.Proofs.YtkpddelnkjjflaaDoor.Base Go.Proofs.YtkpddelnkjjflaaDoorW.PrintWords Go.Proofs.YtkpddelnkjjflaaDoorW.PrintLast Go.Proofs.YtkpddelnkjjflaaDoorW.PrintMore
set_option linter.unusedVariables false
set_option linter.unusedSimpArgs false
def VOk (v : PVar) : Prop := -1000 ≤ v.f1 ∧ v.f1 ≤ v.f3 ∧ v.f3 ≤ v.f2 ∧ v.f2 ≤ 1000 ∧ v.f2 - v.f1 < 64
def prodV : List PVar → Int
 | [] => 1
 | v :: r => (v.f2 - v.f1 + 1) * prodV r
theorem prodV_cons (v : PVar) (r : List PVar) : prodV (v :: r) = (v.f2 - v.f1 + 1) * prodV r := rfl
theorem prodV_pos : ∀ {l : List PVar}, (∀ v ∈ l, VOk v) → 1 ≤ prodV l
 | [], _ => Int.le_refl _
 | v :: r, h => by
  have h1 := prodV_pos (l := r) (fun u hu => h u (by simp [hu]))
  have h2 := h v (by simp)
  unfold VOk at h2
  unfold prodV
  have : 1 * 1 ≤ (v.f2 - v.f1 + 1) * prodV r := Int.mul_le_mul (by omega) h1 (by decide) (by omega)
  omega
theorem varsL_ok : ∀ (l : List PVar) (seen : List ByteArray) (st : Int), varsL l seen st = 0 → 1 ≤ st → st ≤ 4096 → (∀ v ∈ l, VOk v) ∧ st * prodV l ≤ 4096
 | [], _, st, _, _, h => ⟨fun v hv => (nomatch hv), by unfold prodV; omega⟩
 | v :: r, seen, st, h, h1, h2 => by
  unfold varsL at h
  split at h
  ·omega
  split at h
  ·omega
  split at h
  ·omega
  rename_i hb
  split at h
  ·omega
  rename_i hs
  split at h
  ·omega
  rename_i hp
  have hsp : (1 : Int) ≤ v.f2 - v.f1 + 1 := by omega
  have hpp : 1 * 1 ≤ st * (v.f2 - v.f1 + 1) := Int.mul_le_mul h1 hsp (by decide) (by omega)
  obtain ⟨g1, g2⟩ := varsL_ok r _ _ h (by omega) (by omega)
  refine ⟨fun u hu => ?_, ?_⟩
  ·rcases List.mem_cons.1 hu with rfl | hu
   ·unfold VOk; omega
   ·exact g1 u hu
  ·unfold prodV
   rw [← Int.mul_assoc]
   exact g2
theorem vars_ok {vs : List PVar} (h : varsS vs = 0) : (∀ v ∈ vs, VOk v) ∧ prodV vs ≤ 4096 := by
 unfold varsS at h
 split at h
 ·omega
 ·have := varsL_ok vs [] 1 h (by decide) (by decide)
  rw [Int.one_mul] at this
  exact this
theorem drop_ok {vs : List PVar} (h : ∀ v ∈ vs, VOk v) (i : Nat) : ∀ v ∈ vs.drop i, VOk v := fun v hv => h v (List.mem_of_mem_drop hv)
theorem prodV_drop {vs : List PVar} (h : ∀ v ∈ vs, VOk v) (i : Nat) : prodV (vs.drop i) ≤ prodV vs := by
 induction vs generalizing i with
 | nil => simp
 | cons v r ih =>
  cases i with
  | zero => exact Int.le_refl _
  | succ i =>
   have h1 := ih (fun u hu => h u (by simp [hu])) i
   have h2 := h v (by simp)
   have h3 := prodV_pos (l := r) (fun u hu => h u (by simp [hu]))
   unfold VOk at h2
   rw [List.drop_succ_cons]
   have : 1 * prodV r ≤ (v.f2 - v.f1 + 1) * prodV r := Int.mul_le_mul (by omega) (Int.le_refl _) (by omega) (by omega)
   rw [prodV_cons]
   omega
theorem span_wrap {v : PVar} (h : VOk v) : wrap64 (wrap64 (v.f2 - v.f1) + 1) = v.f2 - v.f1 + 1 := by
 unfold VOk at h
 rw [wrap_id (x := v.f2 - v.f1) (by omega) (by omega), wrap_id (by omega) (by omega)]
theorem part_prod {a : Int} {v : PVar} {r : List PVar} (ha : 1 ≤ a) (hv : VOk v) (hr : ∀ u ∈ r, VOk u) (hp : a * prodV (v :: r) ≤ 4096) : 1 ≤ a * (v.f2 - v.f1 + 1) ∧ a * (v.f2 - v.f1 + 1) ≤ 4096 ∧ a * (v.f2 - v.f1 + 1) * prodV r ≤ 4096 := by
 rw [prodV_cons, ← Int.mul_assoc] at hp
 have h3 := prodV_pos hr
 unfold VOk at hv
 have hpp : 1 * 1 ≤ a * (v.f2 - v.f1 + 1) := Int.mul_le_mul ha (by omega) (by decide) (by omega)
 have : a * (v.f2 - v.f1 + 1) * 1 ≤ a * (v.f2 - v.f1 + 1) * prodV r := Int.mul_le_mul (Int.le_refl _) h3 (by decide) (by omega)
 exact ⟨by omega, by omega, hp⟩
theorem behind_l0 (vs : List PVar) (rs : List PRule) (hv : vs.length ≤ 6) (ho : ∀ v ∈ vs, VOk v) (d : Nat) : ∀ (i : Nat) (a : Int), i + d = vs.length → 1 ≤ a → a * prodV (vs.drop i) ≤ 4096 → Ev (fun k => foretellref_behindVar.l0 k a i vs rs) (a * prodV (vs.drop i)) := by
 induction d with
 | zero =>
  intro i a hi ha hp
  rw [List.drop_of_length_le (by omega)]
  have c1 : ¬ (i : Int) < (vs.length : Int) := by omega
  refine ev_succ ?_
  simp only [foretellref_behindVar.l0, ↓reduceIte, c1, prodV, Int.mul_one]
  exact Ev.now _
 | succ d ih =>
  intro i a hi ha hp
  have hil : i < vs.length := by omega
  have c1 : (i : Int) < (vs.length : Int) := by omega
  have c2 : (0 : Int) ≤ (i : Int) := by omega
  have w1 : wrap64 ((i : Int) + 1) = ((i + 1 : Nat) : Int) := by rw [wrap_id (by omega) (by omega)]; rfl
  have hvi := ho _ (List.getElem_mem hil)
  rw [List.drop_eq_getElem_cons hil] at hp ⊢
  obtain ⟨p1, p2, p3⟩ := part_prod ha hvi (drop_ok ho _) hp
  have w2 : wrap64 (a * (vs[i].f2 - vs[i].f1 + 1)) = a * (vs[i].f2 - vs[i].f1 + 1) := wrap_id (by omega) (by omega)
  refine ev_succ ?_
  simp only [foretellref_behindVar.l0, ↓reduceIte, c1, c2, rdV_get vs i hil, w1, span_wrap hvi, w2]
  rw [prodV_cons, ← Int.mul_assoc]
  exact ih (i + 1) _ (by omega) p1 p3
theorem behind_ev (vs : List PVar) (rs : List PRule) (hv : vs.length ≤ 6) (ho : ∀ v ∈ vs, VOk v) (hp : prodV vs ≤ 4096) (i : Nat) (hi : i ≤ vs.length) (a : Int) (ha : a + 1 = (i : Int)) : Ev (fun k => foretellref_behindVar.f k vs rs a) (prodV (vs.drop i)) := by
 have w1 : wrap64 (a + 1) = (i : Int) := by rw [wrap_id (by omega) (by omega)]; exact ha
 unfold foretellref_behindVar.f
 rw [w1]
 have h := behind_l0 vs rs hv ho (vs.length - i) i 1 (by omega) (by decide) (by rw [Int.one_mul]; have := prodV_drop ho i; omega)
 rw [Int.one_mul] at h
 exact h
end Go.Proofs.YtkpddelnkjjflaaDoor.Pure
