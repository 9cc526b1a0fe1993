-- Cut by a program of this session (wip/prune.py) from a longer text: declarations that the law does not need are left out.
import Derived.Test.YtkpddelnkjjflaaDoorKProductChecksMModel
import Derived.Test.YtkpddelnkjjflaaDoorKProductChecksMo
import Derived.Test.YtkpddelnkjjflaaDoorKProductChecksMx9
import Derived.Test.YtkpddelnkjjflaaDoorKProductChecksMSameOps
namespace Go.Proofs.YtkpddelnkjjflaaDoor.Pure
open Go.RowKit Go.Proofs.YtkpddelnkjjflaaDoor Go.Proofs.YtkpddelnkjjflaaDoor.M Go.Proofs.YtkpddelnkjjflaaDoor.Base Go.Proofs.YtkpddelnkjjflaaDoorW.PrintWords Go.Proofs.YtkpddelnkjjflaaDoorW.PrintLast Go.Proofs.YtkpddelnkjjflaaDoorW.PrintMore
set_option linter.unusedVariables false
set_option linter.unusedSimpArgs false
theorem same_l2 (vs : List PVar) (rs : List PRule) (i : Nat) (hi : i < rs.length) (hs : rs[i].f1.length ≤ 4611686018427387904) (ho : ∀ s ∈ rs[i].f1, s.f1.length ≤ 4611686018427387904) (hr : rs.length ≤ 4611686018427387904) (g : List POp) (R : Bool)
    (hR : Ev (fun k => foretelllaw_sameModel.l1 k ((i + 1 : Nat) : Int) vs rs vs rs) R) (d : Nat) : ∀ (j : Nat), j + d = rs[i].f1.length → Ev (fun k => foretelllaw_sameModel.l2 k i j vs rs vs rs g rs[i].f1 g rs[i].f1) R := by
  have w1 : wrap64 ((i : Int) + 1) = ((i + 1 : Nat) : Int) := by rw [wrap_id (by omega) (by omega)]; rfl
  induction d with
  | zero =>
    intro j hj
    have c3 : ¬ (j : Int) < (rs[i].f1.length : Int) := by omega
    refine ev_succ ?_
    simp only [foretelllaw_sameModel.l2, ↓reduceIte, c3, w1]
    exact hR
  | succ d ih =>
    intro j hj
    have hjl : j < rs[i].f1.length := by omega
    have c3 : (j : Int) < (rs[i].f1.length : Int) := by omega
    have c4 : (0 : Int) ≤ (j : Int) := by omega
    have w2 : wrap64 ((j : Int) + 1) = ((j + 1 : Nat) : Int) := by rw [wrap_id (by omega) (by omega)]; rfl
    refine ev_succ ?_
    simp only [foretelllaw_sameModel.l2, ↓reduceIte, c3, c4, w2, rdS_get rs[i].f1 j hjl]
    refine ev_bind (sameOps_refl rs[i].f1[j].f1 (by have := ho _ (List.getElem_mem hjl); omega)) ?_
    simp only [↓reduceIte]
    exact ih (j + 1) (by omega)
theorem same_l1 (vs : List PVar) (rs : List PRule) (hr : rs.length ≤ 4611686018427387904) (hs : ∀ r ∈ rs, r.f0.length ≤ 4611686018427387904 ∧ r.f1.length ≤ 4611686018427387904 ∧ ∀ s ∈ r.f1, s.f1.length ≤ 4611686018427387904) (d : Nat) : ∀ i : Nat, i + d = rs.length → Ev (fun k => foretelllaw_sameModel.l1 k i vs rs vs rs) true := by
  induction d with
  | zero =>
    intro i hi
    have c1 : ¬ (i : Int) < (rs.length : Int) := by omega
    refine ev_succ ?_
    simp only [foretelllaw_sameModel.l1, ↓reduceIte, c1]
    exact Ev.now _
  | succ d ih =>
    intro i hi
    have hil : i < rs.length := by omega
    have c1 : (i : Int) < (rs.length : Int) := by omega
    have c2 : (0 : Int) ≤ (i : Int) := by omega
    obtain ⟨h0, h1, h2⟩ := hs _ (List.getElem_mem hil)
    refine ev_succ ?_
    simp only [foretelllaw_sameModel.l1, ↓reduceIte, c1, c2, rdR_get rs i hil]
    refine ev_bind (sameOps_refl rs[i].f0 (by omega)) ?_
    simp only [↓reduceIte, bne_self_eq_false]
    refine ev_succ ?_
    simp only [foretelllaw_sameModel.j3, Bool.false_eq_true, ↓reduceIte]
    exact same_l2 vs rs i hil h1 h2 hr _ _ (ih (i + 1) (by omega)) rs[i].f1.length 0 (by omega)
theorem same_l0 (vs : List PVar) (rs : List PRule) (hv : vs.length ≤ 4611686018427387904) (h : Ev (fun k => foretelllaw_sameModel.l1 k 0 vs rs vs rs) true) (d : Nat) : ∀ i : Nat, i + d = vs.length → Ev (fun k => foretelllaw_sameModel.l0 k i vs rs vs rs) true := by
  induction d with
  | zero =>
    intro i hi
    have c1 : ¬ (i : Int) < (vs.length : Int) := by omega
    refine ev_succ ?_
    simp only [foretelllaw_sameModel.l0, ↓reduceIte, c1]
    exact h
  | succ d ih =>
    intro i hi
    have hil : i < vs.length := by omega
    have c1 : (i : Int) < (vs.length : Int) := by omega
    have c2 : (0 : Int) ≤ (i : Int) := by omega
    have w2 : wrap64 ((i : Int) + 1) = ((i + 1 : Nat) : Int) := by rw [wrap_id (by omega) (by omega)]; rfl
    refine ev_succ ?_
    simp only [foretelllaw_sameModel.l0, ↓reduceIte, c1, c2, w2, beq_self_eq_true, Bool.not_true, Bool.or_self, Bool.false_eq_true]
    exact ih (i + 1) (by omega)
theorem sameModel_ev (x : S25) (h : G25 x) : Ev (fun k => foretelllaw_sameModel.f k x.f0 x.f1 x.f0 x.f1) true := by
  obtain ⟨⟨h0, _⟩, h1, h2⟩ := h
  unfold foretelllaw_sameModel.f
  simp only [↓reduceIte, bne_self_eq_false]
  refine ev_succ ?_
  simp only [foretelllaw_sameModel.j0, Bool.false_eq_true, ↓reduceIte]
  exact same_l0 x.f0 x.f1 (by omega) (same_l1 x.f0 x.f1 (by omega) (fun r hr => ⟨by have := (h2 r hr).1.1; omega, by have := (h2 r hr).2.1; omega, fun s hs => by have := ((h2 r hr).2.2 s hs).2.1; omega⟩) x.f1.length 0 (by omega)) x.f0.length 0 (by omega)
end Go.Proofs.YtkpddelnkjjflaaDoor.Pure
