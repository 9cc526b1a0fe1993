-- Cut by a program of this session (wip/prune.py) from a longer text: declarations that the law does not need are left out.
import Derived.Test.YtkakmghadhafjaaKStoreAllsRx40
import Derived.Test.YtkakmghadhafjaaKStoreAllsMMerge
import Derived.Test.YtkakmghadhafjaaKStoreAllsMSameLists
namespace Go.Proofs.Ytkakmghadhafjaa.Pure
open Go.RowKit Go.Proofs.Ytkakmghadhafjaa.R Go.Proofs.Ytkakmghadhafjaa.Base Go.Proofs.YtkakmghadhafjaaW.PrintWords Go.Proofs.YtkakmghadhafjaaW.PrintLast Go.Proofs.YtkakmghadhafjaaW.PrintMore
set_option linter.unusedVariables false
set_option linter.unusedSimpArgs false
theorem all_rows (loose : List Int) (runs : List (List Int)) (hs : StoreOK loose runs) (hrl : runs.length ≤ 20000) (d : Nat) : ∀ i : Nat, i + d = runs.length → Ev (fun k => store_All.l0 k ((loose ++ (runs.take i).flatten).mergeSort leI) runs (runs.length : Int) i) ((loose ++ runs.flatten).mergeSort leI, 0) := by
  induction d with
  | zero =>
    intro i hi
    have c1 : ¬ (i : Int) < (runs.length : Int) := by omega
    rw [List.take_of_length_le (by omega)]
    refine ev_succ ?_
    simp only [store_All.l0, ↓reduceIte, c1]
    exact Ev.now _
  | succ d ih =>
    intro i hi
    have hlt : i < runs.length := by omega
    have hg : rd_L1 runs i = runs[i] := getD_get _ _ _ hlt
    have c1 : (i : Int) < (runs.length : Int) := by omega
    have c2 : (0 : Int) ≤ (i : Int) := by omega
    have w1 : wrap64 ((i : Int) + 1) = ((i + 1 : Nat) : Int) := by rw [wrap_id (by omega) (by omega)]; rfl
    have htk : runs.take (i + 1) = runs.take i ++ [runs[i]] := List.take_succ_eq_append_getElem hlt
    have hn := hs.n
    have h2 : runs[i].length ≤ runs.flatten.length := row_flat (List.getElem_mem hlt)
    have h3 : (runs.take i).flatten.length ≤ runs.flatten.length := by
      have e : runs.flatten = (runs.take i).flatten ++ (runs.drop i).flatten := by rw [← List.flatten_append, List.take_append_drop]
      rw [e, List.length_append]
      omega
    rw [List.length_append] at hn
    have hm := merge_eq (sorted_leI (loose ++ (runs.take i).flatten)) (rowUp_sorted (hs.up _ (List.getElem_mem hlt))) (by rw [List.length_mergeSort, List.length_append]; omega)
    have he : ((loose ++ (runs.take i).flatten).mergeSort leI ++ runs[i]).mergeSort leI = (loose ++ (runs.take (i + 1)).flatten).mergeSort leI := by
      refine sorted_perm ?_
      rw [htk]
      simp only [List.flatten_append, List.flatten_cons, List.flatten_nil, List.append_nil]
      rw [← List.append_assoc]
      exact (List.mergeSort_perm _ leI).append_right _
    rw [he] at hm
    refine ev_succ ?_
    simp only [store_All.l0, ↓reduceIte, c1, c2, hg, hm, Option.bind_some, w1]
    exact ih (i + 1) (by omega)
theorem same_store {s : S52} (h : G52 s) : Ev (fun k => foretelllaw_sameStore.f k s.f0 s.f1 s.f0 s.f1) true := by
  obtain ⟨⟨h0, _⟩, ⟨h1, h2⟩⟩ := h
  unfold foretelllaw_sameStore.f
  refine ev_bind (same_ints _ (by omega)) ?_
  simp only [↓reduceIte]
  exact ev_bind (same_lists _ (by omega) (fun l hl => by have := (h2 l hl).1; omega)) (ev_const (fun k => rfl))
theorem StoreAlls (x0 : S52) (good0 : G52 x0) : ∃ k, foretelllaw_StoreAlls.f k x0.f0 x0.f1 = some true := by
  refine Ev.rounds (g := fun k => foretelllaw_StoreAlls.f k x0.f0 x0.f1) ?_
  unfold foretelllaw_StoreAlls.f
  refine ev_bind (stores_ev good0) ?_
  have key : ∃ r : List Int × Int, r.1.length ≤ 20000 ∧ Ev (fun k => store_All.f k x0.f0 x0.f1) r ∧ Ev (fun k => foretellref_KeysUp.f k x0.f0 x0.f1) r := by
    obtain ⟨β, hβ, e1, e2⟩ := check_both good0
    by_cases hb : β = true
    · have hs := hβ.1 hb
      simp only [hb, ↓reduceIte] at e1 e2
      have hn := hs.n
      have hn' := hs.n
      rw [List.length_append] at hn
      have hrl : x0.f1.length ≤ 20000 := by have := runs_flat hs.e; omega
      have c3 : x0.f0.length < 17592186044416 := by omega
      have c4 : x0.f0.length < 4611686018427387904 := by omega
      have hms : (x0.f0.mergeSort fun x y => decide (x ≤ y)) = x0.f0.mergeSort leI := rfl
      refine ⟨((x0.f0 ++ x0.f1.flatten).mergeSort leI, 0), by rw [List.length_mergeSort]; exact hn', ?_, ?_⟩
      · unfold store_All.f
        refine ev_bind e1 ?_
        simp only [↓reduceIte, slices_Clone_int_int.f, c3, Option.bind_some, slices_Sort_int_int.f, c4, hms]
        have := all_rows x0.f0 x0.f1 hs hrl x0.f1.length 0 (by omega)
        simp only [List.take_zero, List.flatten_nil, List.append_nil] at this
        exact this
      · unfold foretellref_KeysUp.f
        refine ev_bind e2 ?_
        simp only [↓reduceIte]
        refine ev_bind (keys_ev x0.f0 x0.f1 hrl (by omega) (by rw [List.length_append]; omega)) ?_
        have hl3 : (x0.f1.flatten ++ x0.f0).length < 4611686018427387904 ∧ (x0.f1.flatten ++ x0.f0).length < 17592186044416 := by
          rw [List.length_append]; omega
        simp only [foretellref_numbersUp.f, hl3, and_self, ↓reduceIte, Option.bind_some]
        rw [sorted_perm (List.perm_append_comm (l₁ := x0.f1.flatten) (l₂ := x0.f0))]
        exact Ev.now _
    · have hbf : β = false := Bool.eq_false_iff.2 hb
      simp only [hbf, Bool.false_eq_true, ↓reduceIte] at e1 e2
      have n9 : ¬ (9 : Int) = 0 := by decide
      refine ⟨([], 9), by decide, ?_, ?_⟩
      · unfold store_All.f
        refine ev_bind e1 ?_
        simp only [↓reduceIte, n9]
        exact Ev.now _
      · unfold foretellref_KeysUp.f
        refine ev_bind e2 ?_
        simp only [↓reduceIte, n9]
        exact Ev.now _
  obtain ⟨r, hr, e1, e2⟩ := key
  refine ev_bind e1 (ev_bind e2 ?_)
  simp only [↓reduceIte]
  refine ev_bind (same_ints r.1 (by omega)) ?_
  simp only [↓reduceIte]
  exact ev_bind (same_store good0) (ev_const (fun k => rfl))
end Go.Proofs.Ytkakmghadhafjaa.Pure
