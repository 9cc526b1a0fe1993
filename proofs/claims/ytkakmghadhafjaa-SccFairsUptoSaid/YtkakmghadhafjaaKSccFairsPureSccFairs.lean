-- Cut by a program of this session (wip/prune.py) from a longer text: declarations that the law does not need are left out.
import Derived.Test.YtkakmghadhafjaaKSccFairsQx27
import Derived.Test.YtkakmghadhafjaaKSccFairsMPartsBoth
import Derived.Test.YtkakmghadhafjaaKSccFairsMReachBoth
import Derived.Test.YtkakmghadhafjaaKSccFairsMFairOf
namespace Go.Proofs.Ytkakmghadhafjaa.Pure
open Go.RowKit Go.Proofs.Ytkakmghadhafjaa.Q Go.Proofs.Ytkakmghadhafjaa.Base Go.Proofs.YtkakmghadhafjaaW.PrintWords Go.Proofs.YtkakmghadhafjaaW.PrintLast Go.Proofs.YtkakmghadhafjaaW.PrintMore
set_option linter.unusedVariables false
theorem restIn_sets {n p : Int} : ∀ {next : List (List Int)} {sets : List Int}, restIn n p next sets = true → next.length = sets.length → ∀ s ∈ sets, 0 ≤ s ∧ s < p
  | [], [], _, _ => fun s hs => by cases hs
  | [], _ :: _, _, h => by simp at h
  | _ :: _, [], _, h => by simp at h
  | l :: ls, s :: ss, h, hl => by
    simp only [restIn, Bool.and_eq_true, decide_eq_true_eq] at h
    intro x hx
    rcases List.mem_cons.1 hx with rfl | hx
    · exact h.1.2
    · exact restIn_sets h.2 (by simpa using hl) x hx
theorem SccFairs (x0 : S33) (good0 : G33 x0) (ht : tot x0.f2 ≤ 1048576) : ∃ k, foretelllaw_SccFairs.f k x0.f0 x0.f1 x0.f2 x0.f3 x0.f4 = some true := by
  refine Ev.rounds (g := fun k => foretelllaw_SccFairs.f k x0.f0 x0.f1 x0.f2 x0.f3 x0.f4) ?_
  unfold foretelllaw_SccFairs.f
  refine ev_bind (graphs_ev x0 good0) ?_
  dsimp only
  have key : ∃ r : Int × Int, Ev (fun k => scc_Fair.f k x0.f0 x0.f1 x0.f2 x0.f3 x0.f4) r ∧ Ev (fun k => foretellref_FairOf.f k x0.f0 x0.f1 x0.f2 x0.f3 x0.f4) r := by
    by_cases hg : graphOK x0.f0.length x0.f1 x0.f2 x0.f3 x0.f4 = true
    · have h := graphIs hg
      obtain ⟨p, g1, e1, e2⟩ := parts_both good0 ht h hg
      obtain ⟨seen, s1, e3, e4⟩ := reach_both good0 hg h.ns h.n h.i0 h.i1 h.inn
      have hp : ∀ x : Int, 0 ≤ x → x < (x0.f0.length : Int) → 0 ≤ rd p x ∧ rd p x < (x0.f0.length : Int) := fun x q0 q1 => leads_in h.inn q0 q1 (g1.2 x q0 q1).1.1
      have hgs : ∀ s ∈ x0.f3, 0 ≤ s ∧ s < pow2 x0.f4 := by
        have hg' := hg
        unfold graphOK at hg'
        rw [Bool.and_eq_true] at hg'
        exact restIn_sets hg'.2 (by have := h.ns; have := h.nt; omega)
      have hs : ∀ x : Int, 0 ≤ x → x < (x0.f0.length : Int) → 0 ≤ rd x0.f3 x ∧ rd x0.f3 x < pow2 x0.f4 := fun x q0 q1 => hgs _ (by
        have := h.nt
        have hlt : x.toNat < x0.f3.length := by omega
        unfold rd
        rw [List.getD_eq_getElem?_getD, List.getElem?_eq_getElem hlt]
        exact List.getElem_mem _)
      have hl : ∀ a, (rd_L3 x0.f2 a).length ≤ 9223372036854775806 := fun a => rd_rows (Q := fun l => l.length ≤ 9223372036854775806) (by decide) (fun l hl => by have := (good0.2.2.1.2 l hl).1; omega) a
      obtain ⟨o, ⟨ho, hh⟩, e5⟩ := fair_all x0.f0 x0.f1 x0.f2 x0.f3 x0.f4 p x0.f0.length h.ns g1.1 hp h.nt hs h.m0 h.m1 h.inn h.n hl rfl
      obtain ⟨r, e6, e7⟩ := fair_both x0.f0 x0.f1 x0.f2 x0.f3 x0.f4 p x0.f0.length seen h.ns g1.1 hp h.nt hs h.m0 h.m1 h.inn h.n hl s1.1 o ho hh x0.f0.length 0 (by omega)
      refine ⟨r, ?_, ?_⟩
      · unfold scc_Fair.f
        refine ev_bind e1 ?_
        simp only [↓reduceIte]
        refine ev_bind e3 (ev_bind e5 ?_)
        rw [ho]
        exact e6
      · unfold foretellref_FairOf.f
        refine ev_bind e2 ?_
        simp only [↓reduceIte]
        exact ev_bind e4 e7
    · obtain ⟨e1, e2⟩ := parts_fault good0 (Bool.eq_false_iff.2 hg)
      have n9 : ¬ (9 : Int) = 0 := by decide
      refine ⟨(0, 9), ?_, ?_⟩
      · unfold scc_Fair.f
        refine ev_bind e1 ?_
        simp only [↓reduceIte, n9]
        exact Ev.now _
      · unfold foretellref_FairOf.f
        refine ev_bind e2 ?_
        simp only [↓reduceIte, n9]
        exact Ev.now _
  obtain ⟨r, e1, e2⟩ := key
  refine ev_bind e1 (ev_bind e2 ?_)
  simp only [↓reduceIte, beq_self_eq_true]
  exact Ev.now _
end Go.Proofs.Ytkakmghadhafjaa.Pure
