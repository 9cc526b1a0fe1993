-- Cut by a program of this session (wip/prune.py) from a longer text: declarations that the law does not need are left out.
import Derived.Test.YtkakmghadhafjaaKSccFairsQx16
import Derived.Test.YtkakmghadhafjaaKSccFairsMTarjanRun
import Derived.Test.YtkakmghadhafjaaKSccFairsMEv
import Derived.Test.YtkakmghadhafjaaKSccFairsMFrom
import Derived.Test.YtkakmghadhafjaaKSccFairsMGraph
namespace Go.Proofs.Ytkakmghadhafjaa.Pure
open Go.RowKit Go.Proofs.Ytkakmghadhafjaa.Q Go.Proofs.Ytkakmghadhafjaa.Base Go.Proofs.YtkakmghadhafjaaW.PrintWords Go.Proofs.YtkakmghadhafjaaW.PrintLast Go.Proofs.YtkakmghadhafjaaW.PrintMore
set_option linter.unusedVariables false
set_option linter.unusedSectionVars false
section
variable {next : List (List Int)} {n : Nat} (hin : ∀ a, ∀ b ∈ rd_L3 next a, 0 ≤ b ∧ b < (n : Int))
include hin
theorem goOn_keeps {s : Srch} (h : SGood next n s) (hc : s.calls ≠ []) (x : Int) (x0 : 0 ≤ x) (hx : rd s.order x ≠ 0) : rd (goOnS next s).order x ≠ 0 := by
  rcases List.eq_nil_or_concat s.calls with e | ⟨cl, ⟨a, j⟩, e⟩
  · exact absurd e hc
  have hcl : s.calls = cl ++ [(a, j)] := by rw [e]; simp
  obtain ⟨_, j0, j1⟩ := a_opn h.inv hcl
  rw [goOn_last h.inv hcl]
  split
  · rw [(leaveS_rest s a).1]; exact hx
  · rename_i hj
    obtain ⟨k0, k1⟩ := hin a _ (row_mem h.inv hcl (by omega))
    split
    · show rd (s.order.set (rd (rd_L3 next a) j).toNat (s.met + 1)) x ≠ 0
      rw [rd_set k0 (by rw [h.inv.lo]; exact k1) x0]
      split
      · have := h.inv.m0; omega
      · exact hx
    · split <;> exact hx
omit hin in
theorem enter_keeps {s : Srch} (h : SGood next n s) {i : Int} (i0 : 0 ≤ i) (i1 : i < (n : Int)) (x : Int) (x0 : 0 ≤ x) (hx : x = i ∨ rd s.order x ≠ 0) : rd (enterS s i).order x ≠ 0 := by
  show rd (s.order.set i.toNat (s.met + 1)) x ≠ 0
  rw [rd_set i0 (by rw [h.inv.lo]; exact i1) x0]
  split
  · have := h.inv.m0; omega
  · rename_i e
    exact hx.resolve_left e
theorem l1_run (i : Int) (hq : ∀ s, SGood next n s → s.calls = [] → (∀ x : Int, 0 ≤ x → x ≤ i → rd s.order x ≠ 0) → ∃ r, GoodP next n r ∧ Ev (fun k => scc_Parts.l0 k s (i + 1) (n : Int) next) r) :
    ∀ (c f : Nat) (s : Srch), s.order.count 0 = c → fsum next s.calls = f → SGood next n s → (∀ x : Int, 0 ≤ x → x ≤ i → rd s.order x ≠ 0) → ∃ r, GoodP next n r ∧ Ev (fun k => scc_Parts.l1 k s i (n : Int) next) r := by
  intro c
  induction c using Nat.strongRecOn with
  | _ c ihc =>
    intro f
    induction f using Nat.strongRecOn with
    | _ f ihf =>
      intro s ec ef h ho
      have hs := h.safe
      by_cases hc : s.calls = []
      · obtain ⟨r, hg, he⟩ := hq s h hc ho
        have he1 : s.calls.isEmpty = true := by rw [hc]; rfl
        refine ⟨r, hg, ev_succ ?_⟩
        simp only [scc_Parts.l1, Int.toNat_natCast, hs, he1, ↓reduceIte]
        exact he
      · obtain ⟨g1, g2⟩ := goOn_good h hin hc
        have hk : ∀ x : Int, 0 ≤ x → x ≤ i → rd (goOnS next s).order x ≠ 0 := fun x x0 x1 => goOn_keeps hin h hc x x0 (ho x x0 x1)
        have he1 : s.calls.isEmpty = false := Bool.eq_false_iff.2 (fun e => hc (List.isEmpty_iff.1 e))
        have hr : ∃ r, GoodP next n r ∧ Ev (fun k => scc_Parts.l1 k (goOnS next s) i (n : Int) next) r := by
          rcases g2 with g2 | ⟨g2, g3⟩
          · exact ihc _ (by omega) _ _ rfl rfl g1 hk
          · exact ihf _ (by omega) _ (by omega) rfl g1 hk
        obtain ⟨r, hg, he⟩ := hr
        refine ⟨r, hg, ev_succ ?_⟩
        simp only [scc_Parts.l1, Int.toNat_natCast, hs, he1, ↓reduceIte, Bool.false_eq_true]
        exact he
theorem l0_run (d : Nat) : ∀ i : Nat, i + d = n → ∀ s, SGood next n s → s.calls = [] → (∀ x : Int, 0 ≤ x → x < (i : Int) → rd s.order x ≠ 0) → ∃ r, GoodP next n r ∧ Ev (fun k => scc_Parts.l0 k s (i : Int) (n : Int) next) r := by
  induction d with
  | zero =>
    intro i hi s h hc ho
    have hs := h.safe
    have c1 : ¬ (i : Int) < (n : Int) := by omega
    refine ⟨s.part, end_good h hc (fun x x0 x1 => ho x x0 (by omega)), ev_succ ?_⟩
    simp only [scc_Parts.l0, Int.toNat_natCast, hs, c1, ↓reduceIte]
    exact ev_const (fun k => rfl)
  | succ d ih =>
    intro i hi s h hc ho
    have hs := h.safe
    have c1 : (i : Int) < (n : Int) := by omega
    have c2 : (0 : Int) ≤ (i : Int) := by omega
    have he1 : s.calls.isEmpty = true := by rw [hc]; rfl
    have hq : ∀ s, SGood next n s → s.calls = [] → (∀ x : Int, 0 ≤ x → x ≤ (i : Int) → rd s.order x ≠ 0) → ∃ r, GoodP next n r ∧ Ev (fun k => scc_Parts.l0 k s ((i : Int) + 1) (n : Int) next) r := fun s h hc ho => ih (i + 1) (by omega) s h hc (fun x x0 x1 => ho x x0 (by omega))
    have hr : ∃ r, GoodP next n r ∧ Ev (fun k => scc_Parts.l1 k (if rd s.order (i : Int) = 0 then enterS s (i : Int) else s) (i : Int) (n : Int) next) r := by
      by_cases hu : rd s.order (i : Int) = 0
      · rw [if_pos hu]
        exact l1_run hin (i : Int) hq _ _ _ rfl rfl (enter_good h hin hc c2 c1 hu) (fun x x0 x1 => enter_keeps h c2 c1 x x0 ((Classical.em (x = (i : Int))).imp id (fun e => ho x x0 (by omega))))
      · rw [if_neg hu]
        exact l1_run hin (i : Int) hq _ _ _ rfl rfl h (fun x x0 x1 => by
          by_cases e : x = (i : Int)
          · rw [e]; exact hu
          · exact ho x x0 (by omega))
    obtain ⟨r, hg, he⟩ := hr
    refine ⟨r, hg, ev_succ ?_⟩
    simp only [scc_Parts.l0, Int.toNat_natCast, hs, he1, c1, c2, ↓reduceIte]
    exact he
theorem parts_run : ∃ r, GoodP next n r ∧ Ev (fun k => scc_Parts.l0 k ⟨List.replicate n 0, List.replicate n 0, List.replicate n (-1), [], [], 0⟩ 0 (n : Int) next) r :=
  l0_run hin n 0 (by omega) _ (begin_good next n) rfl (fun x x0 x1 => by omega)
end
end Go.Proofs.Ytkakmghadhafjaa.Pure
