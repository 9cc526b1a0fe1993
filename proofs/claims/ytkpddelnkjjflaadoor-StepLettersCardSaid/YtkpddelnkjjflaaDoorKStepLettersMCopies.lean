-- Cut by a program of this session (wip/prune.py) from a longer text: declarations that the law does not need are left out.
import Derived.Test.YtkpddelnkjjflaaDoorKStepLettersMModel
import Derived.Test.YtkpddelnkjjflaaDoorKStepLettersMo
import Derived.Test.YtkpddelnkjjflaaDoorKStepLettersMx1
namespace Go.Proofs.YtkpddelnkjjflaaDoor.Pure
open Go.RowKit Go.Proofs.YtkpddelnkjjflaaDoor Go.Proofs.YtkpddelnkjjflaaDoor.M Go.Proofs.YtkpddelnkjjflaaDoor.Base Go.Proofs.YtkpddelnkjjflaaDoorW.PrintWords Go.Proofs.YtkpddelnkjjflaaDoorW.PrintLast Go.Proofs.YtkpddelnkjjflaaDoorW.PrintMore
set_option linter.unusedVariables false
set_option linter.unusedSimpArgs false
theorem models_l1 (vs : List PVar) (rs : List PRule) (i : Nat) (hi : i < rs.length) (hr : rs.length * 48 ≤ 140737488351232) (hs : rs[i].f1.length * 32 ≤ 140737488351232) (ho : ∀ s ∈ rs[i].f1, s.f1.length * 16 ≤ 140737488351232) (acc : List PRule) (ha : acc.length = i) (t : List POp) (R : List PVar × List PRule)
  (hR : Ev (fun k => foretelllaw_models.l0 k ((i + 1 : Nat) : Int) vs rs vs (acc ++ [⟨t, rs[i].f1⟩])) R) (d : Nat) : ∀ (j : Nat) (sa : List PSet), j + d = rs[i].f1.length → sa = rs[i].f1.take j → Ev (fun k => foretelllaw_models.l1 k i j vs rs vs acc t sa) R := by
 induction d with
 | zero =>
  intro j sa hj hsa
  rw [List.take_of_length_le (by omega)] at hsa
  subst hsa
  have c1 : (0 : Int) ≤ (i : Int) := by omega
  have c2 : (i : Int) < (rs.length : Int) := by omega
  have c3 : ¬ (j : Int) < (rs[i].f1.length : Int) := by omega
  have c4 : acc.length < 2932031007402 := by omega
  have w1 : wrap64 ((i : Int) + 1) = ((i + 1 : Nat) : Int) := by rw [wrap_id (by omega) (by omega)]; rfl
  refine ev_succ ?_
  simp only [foretelllaw_models.l1, ↓reduceIte, c1, c2, rdR_get rs i hi, c3, c4, w1]
  exact hR
 | succ d ih =>
  intro j sa hj hsa
  have hjl : j < rs[i].f1.length := by omega
  have c1 : (0 : Int) ≤ (i : Int) := by omega
  have c2 : (i : Int) < (rs.length : Int) := by omega
  have c3 : (j : Int) < (rs[i].f1.length : Int) := by omega
  have c4 : (0 : Int) ≤ (j : Int) := by omega
  have c5 : sa.length < 4398046511104 := by rw [hsa, List.length_take]; omega
  have w1 : wrap64 ((j : Int) + 1) = ((j + 1 : Nat) : Int) := by rw [wrap_id (by omega) (by omega)]; rfl
  have ho' := ops_eq rs[i].f1[j].f1 (ho _ (List.getElem_mem hjl))
  refine ev_succ ?_
  simp only [foretelllaw_models.l1, ↓reduceIte, c1, c2, rdR_get rs i hi, c3, c4, c5, w1, rdS_get rs[i].f1 j hjl, ho', x_bind]
  exact ih (j + 1) _ (by omega) (by rw [List.take_succ_eq_append_getElem hjl, hsa])
theorem models_l0 (vs : List PVar) (rs : List PRule) (hr : rs.length * 48 ≤ 140737488351232) (hs : ∀ r ∈ rs, r.f0.length * 16 ≤ 140737488351232 ∧ r.f1.length * 32 ≤ 140737488351232 ∧ ∀ s ∈ r.f1, s.f1.length * 16 ≤ 140737488351232) (d : Nat) : ∀ (i : Nat) (acc : List PRule), i + d = rs.length → acc = rs.take i → Ev (fun k => foretelllaw_models.l0 k i vs rs vs acc) (vs, rs) := by
 induction d with
 | zero =>
  intro i acc hi ha
  rw [List.take_of_length_le (by omega)] at ha
  subst ha
  have c1 : ¬ (i : Int) < (acc.length : Int) := by omega
  refine ev_succ ?_
  simp only [foretelllaw_models.l0, ↓reduceIte, c1]
  exact Ev.now _
 | succ d ih =>
  intro i acc hi ha
  have hil : i < rs.length := by omega
  have c1 : (i : Int) < (rs.length : Int) := by omega
  have c2 : (0 : Int) ≤ (i : Int) := by omega
  obtain ⟨h0, h1, h2⟩ := hs _ (List.getElem_mem hil)
  refine ev_succ ?_
  simp only [foretelllaw_models.l0, ↓reduceIte, c1, c2, rdR_get rs i hil, ops_eq rs[i].f0 h0, x_bind]
  refine models_l1 vs rs i hil hr h1 h2 acc (by rw [ha, List.length_take]; omega) rs[i].f0 _ ?_ rs[i].f1.length 0 [] (by omega) rfl
  exact ih (i + 1) _ (by omega) (by rw [List.take_succ_eq_append_getElem hil, ha])
theorem models_ev (x : S25) (h : G25 x) : Ev (fun k => foretelllaw_models.f k x.f0 x.f1) (x.f0, x.f1) := by
 obtain ⟨⟨h0, _⟩, h1, h2⟩ := h
 unfold foretelllaw_models.f
 have c1 : ([] : List PVar).length + x.f0.length < 3518437208883 := by simp; omega
 simp only [c1, ↓reduceIte, List.nil_append]
 exact models_l0 x.f0 x.f1 h1 (fun r hr => ⟨(h2 r hr).1.1, (h2 r hr).2.1, fun s hs => ((h2 r hr).2.2 s hs).2.1⟩) x.f1.length 0 [] (by omega) rfl
end Go.Proofs.YtkpddelnkjjflaaDoor.Pure
