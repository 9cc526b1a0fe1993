-- Cut by a program of this session (wip/prune.py) from a longer text: declarations that the law does not need are left out.
import Derived.Test.YtkakmghadhafjaaKStoreAddsRx38
import Derived.Test.YtkakmghadhafjaaKStoreAddsRx34
import Derived.Test.YtkakmghadhafjaaKStoreAddsMEv
namespace Go.Proofs.Ytkakmghadhafjaa.Pure
open Go.RowKit Go.Proofs.Ytkakmghadhafjaa.R Go.Proofs.Ytkakmghadhafjaa.Base Go.Proofs.YtkakmghadhafjaaW.PrintWords Go.Proofs.YtkakmghadhafjaaW.PrintLast Go.Proofs.YtkakmghadhafjaaW.PrintMore
set_option linter.unusedVariables false
theorem same_ints (r : List Int) (hr : r.length ≤ 9223372036854775806) : Ev (fun k => foretelllaw_sameInts.f k r r) true := by
  have loop : ∀ (d j : Nat), j + d = r.length → Ev (fun k => foretelllaw_sameInts.l0 k r r j) true := by
    intro d
    induction d with
    | zero =>
      intro j hj
      have c1 : ¬ (j : Int) < (r.length : Int) := by omega
      refine ev_succ ?_
      simp only [foretelllaw_sameInts.l0, ↓reduceIte, c1]
      exact Ev.now _
    | succ d ih =>
      intro j hj
      have c1 : (j : Int) < (r.length : Int) := by omega
      have c2 : (0 : Int) ≤ (j : Int) := by omega
      have w1 : wrap64 ((j : Int) + 1) = ((j + 1 : Nat) : Int) := by rw [wrap_id (by omega) (by omega)]; rfl
      refine ev_succ ?_
      simp only [foretelllaw_sameInts.l0, ↓reduceIte, c1, c2, w1]
      exact ih (j + 1) (by omega)
  unfold foretelllaw_sameInts.f
  simp only [↓reduceIte]
  exact loop r.length 0 (by omega)
theorem same_lists (r : List (List Int)) (hr : r.length ≤ 9223372036854775806) (hb : ∀ l ∈ r, l.length ≤ 9223372036854775806) : Ev (fun k => foretelllaw_sameLists.f k r r) true := by
  have loop : ∀ (d j : Nat), j + d = r.length → Ev (fun k => foretelllaw_sameLists.l0 k r r j) true := by
    intro d
    induction d with
    | zero =>
      intro j hj
      have c1 : ¬ (j : Int) < (r.length : Int) := by omega
      refine ev_succ ?_
      simp only [foretelllaw_sameLists.l0, ↓reduceIte, c1]
      exact Ev.now _
    | succ d ih =>
      intro j hj
      have c1 : (j : Int) < (r.length : Int) := by omega
      have c2 : (0 : Int) ≤ (j : Int) := by omega
      have w1 : wrap64 ((j : Int) + 1) = ((j + 1 : Nat) : Int) := by rw [wrap_id (by omega) (by omega)]; rfl
      have hm : (rd_L1 r (j : Int)).length ≤ 9223372036854775806 := by
        unfold rd_L1
        rw [Int.toNat_natCast, List.getD_eq_getElem?_getD, List.getElem?_eq_getElem (by omega)]
        exact hb _ (List.getElem_mem _)
      refine ev_succ ?_
      simp only [foretelllaw_sameLists.l0, ↓reduceIte, c1, c2, w1]
      refine ev_bind (same_ints _ hm) ?_
      simp only [↓reduceIte]
      exact ih (j + 1) (by omega)
  unfold foretelllaw_sameLists.f
  simp only [↓reduceIte]
  exact loop r.length 0 (by omega)
end Go.Proofs.Ytkakmghadhafjaa.Pure
