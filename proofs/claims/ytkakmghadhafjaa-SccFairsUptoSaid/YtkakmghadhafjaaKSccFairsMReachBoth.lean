-- Cut by a program of this session (wip/prune.py) from a longer text: declarations that the law does not need are left out.
import Derived.Test.YtkakmghadhafjaaKSccFairsMFrom
namespace Go.Proofs.Ytkakmghadhafjaa.Pure
open Go.RowKit Go.Proofs.Ytkakmghadhafjaa.Q Go.Proofs.Ytkakmghadhafjaa.Base Go.Proofs.YtkakmghadhafjaaW.PrintWords Go.Proofs.YtkakmghadhafjaaW.PrintLast Go.Proofs.YtkakmghadhafjaaW.PrintMore
set_option linter.unusedVariables false
set_option linter.unusedSectionVars false
section
variable (spots : List S98) (init : Int) (next : List (List Int)) (sets : List Int) (many : Int) (frm : Int → Prop) (n : Nat) (hN : next.length = n) (hin : ∀ a, ∀ b ∈ rd_L3 next a, 0 ≤ b ∧ b < (n : Int)) (hf : ∀ x, frm x → 0 ≤ x ∧ x < (n : Int)) (hn : n ≤ 20000) (hl : ∀ a, (rd_L3 next a).length ≤ 9223372036854775807)
include hN hin hf hn hl
theorem start_search (I : Nat) (hI : I ≤ n) (hfi : ∀ x : Int, frm x ↔ 0 ≤ x ∧ x < (I : Int)) (d : Nat) : ∀ (j : Nat) (s : List Bool) (t : List Int), j + d = I → SInv next frm n (fun _ => False) s t → (∀ x : Int, 0 ≤ x → x < (j : Int) → tru s x) → meas s t ≤ n → Res next frm n (fun k => scc_Reached.l0 k s t j (I : Int) next) := by
  induction d with
  | zero =>
    intro j s t hj hS hb hm
    have c1 : ¬ (j : Int) < (I : Int) := by omega
    obtain ⟨r, hg, he⟩ := search_run next frm n hN hin hf hn hl n s t (Nat.le_refl _) hS (fun x hx => hb x ((hfi x).1 hx).1 (by have := ((hfi x).1 hx).2; omega)) hm
    refine ⟨r, hg, ev_succ ?_⟩
    simp only [scc_Reached.l0, ↓reduceIte, c1]
    exact he
  | succ d ih =>
    intro j s t hj hS hb hm
    have c1 : (j : Int) < (I : Int) := by omega
    have c2 : (0 : Int) ≤ (j : Int) := by omega
    have c3 : (j : Int) < (s.length : Int) := by rw [hS.len]; omega
    have c4 : t.length < 17592186044416 := by unfold meas at hm; omega
    have w1 : wrap64 ((j : Int) + 1) = ((j + 1 : Nat) : Int) := by rw [wrap_id (by omega) (by omega)]; rfl
    obtain ⟨r, hg, he⟩ := ih (j + 1) _ _ (by omega) (visit_inv next frm n hin hS c2 (by omega) (.start _ ((hfi _).2 ⟨c2, c1⟩))) (fun x hx hx' => by
      by_cases e : x = (j : Int)
      · rw [e]; exact visit_tru c2 c3
      · exact visit_mono c2 c3 hx (hb x hx (by omega))) (by rw [visit_meas c2 c3]; exact hm)
    refine ⟨r, hg, ev_succ ?_⟩
    simp only [scc_Reached.l0, ↓reduceIte, c1, c2, c3, c4, w1]
    exact he
end
theorem first_ev (spots : List S98) (next : List (List Int)) (sets : List Int) (many : Int) (I : Nat) (hI : I ≤ 20000) (r : List Bool) (h : Ev (fun k => foretellref_reachedFrom.f k spots (I : Int) next sets many ((List.range I).map (fun i : Nat => (i : Int)))) r) (d : Nat) : ∀ j : Nat, j + d = I → Ev (fun k => foretellref_ReachedOf.l0 k ((List.range j).map (fun i : Nat => (i : Int))) j spots (I : Int) next sets many) (r, 0) := by
  induction d with
  | zero =>
    intro j hj
    obtain rfl : j = I := by omega
    have c1 : ¬ (j : Int) < (j : Int) := by omega
    refine ev_succ ?_
    simp only [foretellref_ReachedOf.l0, ↓reduceIte, c1]
    exact ev_bind h (ev_const (fun k => rfl))
  | succ d ih =>
    intro j hj
    have c1 : (j : Int) < (I : Int) := by omega
    have c2 : ((List.range j).map (fun i : Nat => (i : Int))).length < 17592186044416 := by simp; omega
    have w1 : wrap64 ((j : Int) + 1) = ((j + 1 : Nat) : Int) := by rw [wrap_id (by omega) (by omega)]; rfl
    refine ev_succ ?_
    simp only [foretellref_ReachedOf.l0, ↓reduceIte, c1, c2, w1]
    have := ih (j + 1) (by omega)
    rw [List.range_succ, List.map_append] at this
    exact this
theorem reach_both {g : S33} (good : G33 g) (hg : graphOK g.f0.length g.f1 g.f2 g.f3 g.f4 = true) (hN : g.f2.length = g.f0.length) (hn : g.f0.length ≤ 20000) (i0 : 0 ≤ g.f1) (i1 : g.f1 ≤ (g.f0.length : Int)) (hin : ∀ a, ∀ b ∈ rd_L3 g.f2 a, 0 ≤ b ∧ b < (g.f0.length : Int)) : ∃ r, GoodR g.f2 (fun x => 0 ≤ x ∧ x < g.f1) g.f0.length r ∧ Ev (fun k => scc_Reached.f k g.f0 g.f1 g.f2 g.f3 g.f4) (r, 0) ∧ Ev (fun k => foretellref_ReachedOf.f k g.f0 g.f1 g.f2 g.f3 g.f4) (r, 0) := by
  have hb := graph_len good
  have HC := check_ev g.f0 g.f1 g.f2 g.f3 g.f4 hb
  have HF := fault_ev g.f0 g.f1 g.f2 g.f3 g.f4 hb
  rw [hg] at HC HF
  obtain ⟨I, hI⟩ : ∃ I : Nat, g.f1 = (I : Int) := ⟨g.f1.toNat, by omega⟩
  rw [hI] at HC HF i0 i1 ⊢
  have hIn : I ≤ g.f0.length := by omega
  have hl : ∀ a, (rd_L3 g.f2 a).length ≤ 9223372036854775807 := fun a => rd_rows (Q := fun l => l.length ≤ 9223372036854775807) (by decide) hb a
  have hf : ∀ x : Int, (0 ≤ x ∧ x < (I : Int)) → 0 ≤ x ∧ x < (g.f0.length : Int) := fun x h => by omega
  have hsz : ∀ x : Int, ¬ tru (List.replicate g.f0.length false) x := fun x h => by
    unfold tru at h; rw [List.getD_eq_getElem?_getD, List.getElem?_replicate] at h; split at h <;> simp at h
  obtain ⟨r, g1, e1⟩ := start_search g.f2 (fun x => 0 ≤ x ∧ x < (I : Int)) g.f0.length hN hin hf hn hl I hIn (fun x => Iff.rfl) I 0 (List.replicate g.f0.length false) [] (by omega) ⟨by simp, fun x _ _ h => absurd h (hsz x), (fun x hx => by simp at hx), fun a _ _ h => absurd h (hsz a)⟩ (fun x hx hx' => by omega) (by unfold meas; simp)
  obtain ⟨r', g2, e2⟩ := reached_from g.f0 (I : Int) g.f2 g.f3 g.f4 (fun x => 0 ≤ x ∧ x < (I : Int)) g.f0.length hN hin hf hn hl rfl ((List.range I).map (fun i : Nat => (i : Int))) (fun x => by
    simp only [List.mem_map, List.mem_range]
    exact ⟨fun h => ⟨x.toNat, by omega, by omega⟩, fun ⟨i, h, e⟩ => by omega⟩) (by simp; omega)
  obtain rfl := good_eq g.f2 _ g.f0.length g1 g2
  have cap : g.f0.length ≤ 140737488355328 := by omega
  refine ⟨r, g1, ?_, ?_⟩
  · unfold scc_Reached.f
    refine ev_bind HC ?_
    simp only [okErr, ↓reduceIte, cap]
    exact ev_bind e1 (ev_const (fun k => rfl))
  · unfold foretellref_ReachedOf.f
    refine ev_bind HF ?_
    simp only [okErr, ↓reduceIte]
    exact first_ev g.f0 g.f2 g.f3 g.f4 I (by omega) r e2 I 0 (by omega)
end Go.Proofs.Ytkakmghadhafjaa.Pure
