-- Cut by a program of this session (wip/prune.py) from a longer text: declarations that the law does not need are left out.
import Derived.Test.YtkakmghadhafjaaKSccFairsQx18
import Derived.Test.YtkakmghadhafjaaKSccFairsMPartsRun
import Derived.Test.YtkakmghadhafjaaKSccFairsMPartsOf
import Derived.Test.YtkakmghadhafjaaKSccFairsMGraph
namespace Go.Proofs.Ytkakmghadhafjaa.Pure
open Go.RowKit Go.Proofs.Ytkakmghadhafjaa.Q Go.Proofs.Ytkakmghadhafjaa.Base Go.Proofs.YtkakmghadhafjaaW.PrintWords Go.Proofs.YtkakmghadhafjaaW.PrintLast Go.Proofs.YtkakmghadhafjaaW.PrintMore
set_option linter.unusedVariables false
structure GraphIs (g : S33) : Prop where
  ns : g.f2.length = g.f0.length
  nt : g.f3.length = g.f0.length
  n : g.f0.length ≤ 20000
  i0 : 0 ≤ g.f1
  i1 : g.f1 ≤ (g.f0.length : Int)
  m0 : 0 ≤ g.f4
  m1 : g.f4 ≤ 6
  inn : ∀ a, ∀ b ∈ rd_L3 g.f2 a, 0 ≤ b ∧ b < (g.f0.length : Int)
  row : ∀ l ∈ g.f2, ∀ b ∈ l, 0 ≤ b ∧ b < (g.f0.length : Int)
theorem graphIs {g : S33} (hg : graphOK g.f0.length g.f1 g.f2 g.f3 g.f4 = true) : GraphIs g := by
  unfold graphOK at hg
  rw [Bool.and_eq_true] at hg
  obtain ⟨h1, h2⟩ := hg
  have h1 := of_decide_eq_true h1
  have hr := restIn_all h2 (by omega)
  exact ⟨by omega, by omega, by omega, by omega, by omega, by omega, by omega, fun a => rd_rows (Q := fun l => ∀ b ∈ l, 0 ≤ b ∧ b < (g.f0.length : Int)) (fun b hb => by cases hb) hr a, hr⟩
theorem rowsOK_of {g : S33} (h : GraphIs g) (hb : ∀ l ∈ g.f2, l.length ≤ 4611686018427387904) : rowsOK g.f0.length g.f2 = true := by
  unfold rowsOK
  rw [Bool.and_eq_true]
  refine ⟨decide_eq_true ⟨h.ns, h.n⟩, List.all_eq_true.2 fun l hl => ?_⟩
  rw [Bool.and_eq_true]
  exact ⟨decide_eq_true (hb l hl), List.all_eq_true.2 fun b hm => decide_eq_true (h.row l hl b hm)⟩
theorem parts_both {g : S33} (good : G33 g) (ht : tot g.f2 ≤ 1048576) (h : GraphIs g) (hg : graphOK g.f0.length g.f1 g.f2 g.f3 g.f4 = true) : ∃ r, GoodP g.f2 g.f0.length r ∧ Ev (fun k => scc_Parts.f k g.f0 g.f1 g.f2 g.f3 g.f4) (r, 0) ∧ Ev (fun k => foretellref_PartsOfGraph.f k g.f0 g.f1 g.f2 g.f3 g.f4) (r, 0) := by
  have hb := graph_len good
  have HC := check_ev g.f0 g.f1 g.f2 g.f3 g.f4 hb
  have HF := fault_ev g.f0 g.f1 g.f2 g.f3 g.f4 hb
  rw [hg] at HC HF
  have hl : ∀ a, (rd_L3 g.f2 a).length ≤ 9223372036854775807 := fun a => rd_rows (Q := fun l => l.length ≤ 9223372036854775807) (by decide) hb a
  obtain ⟨r, g1, e1⟩ := parts_run (next := g.f2) (n := g.f0.length) h.inn
  obtain ⟨r', g2, e2⟩ := partsOf_all g.f0 g.f1 g.f2 g.f3 g.f4 g.f0.length h.ns h.inn h.n hl (by omega) rfl
  obtain rfl := goodP_eq g1 g2
  have hrow := rowsOK_of h (fun l hl => by have := (good.2.2.1.2 l hl).1; omega)
  refine ⟨r, g1, ?_, ?_⟩
  · unfold scc_Parts.f
    refine ev_bind HC ?_
    simp only [okErr, ↓reduceIte, hrow]
    exact ev_bind e1 (ev_const (fun k => rfl))
  · unfold foretellref_PartsOfGraph.f
    refine ev_bind HF ?_
    simp only [okErr, ↓reduceIte, hrow, ht, and_self]
    exact ev_bind e2 (ev_const (fun k => rfl))
theorem parts_fault {g : S33} (good : G33 g) (hg : graphOK g.f0.length g.f1 g.f2 g.f3 g.f4 = false) : Ev (fun k => scc_Parts.f k g.f0 g.f1 g.f2 g.f3 g.f4) ([], 9) ∧ Ev (fun k => foretellref_PartsOfGraph.f k g.f0 g.f1 g.f2 g.f3 g.f4) ([], 9) := by
  have hb := graph_len good
  have HC := check_ev g.f0 g.f1 g.f2 g.f3 g.f4 hb
  have HF := fault_ev g.f0 g.f1 g.f2 g.f3 g.f4 hb
  rw [hg] at HC HF
  have n9 : ¬ (9 : Int) = 0 := by decide
  refine ⟨?_, ?_⟩
  · unfold scc_Parts.f
    refine ev_bind HC ?_
    simp only [okErr, Bool.false_eq_true, ↓reduceIte, n9]
    exact Ev.now _
  · unfold foretellref_PartsOfGraph.f
    refine ev_bind HF ?_
    simp only [okErr, Bool.false_eq_true, ↓reduceIte, n9]
    exact Ev.now _
end Go.Proofs.Ytkakmghadhafjaa.Pure
