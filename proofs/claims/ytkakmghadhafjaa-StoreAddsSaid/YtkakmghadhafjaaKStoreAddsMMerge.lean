-- Cut by a program of this session (wip/prune.py) from a longer text: declarations that the law does not need are left out.
import Derived.Test.YtkakmghadhafjaaKStoreAddsRx35
import Derived.Test.YtkakmghadhafjaaKStoreAddsMStoreHas
namespace Go.Proofs.Ytkakmghadhafjaa.Pure
open Go.RowKit Go.Proofs.Ytkakmghadhafjaa.R Go.Proofs.Ytkakmghadhafjaa.Base Go.Proofs.YtkakmghadhafjaaW.PrintWords Go.Proofs.YtkakmghadhafjaaW.PrintLast Go.Proofs.YtkakmghadhafjaaW.PrintMore
set_option linter.unusedVariables false
set_option linter.unusedSimpArgs false
theorem mergeF_perm : ∀ (m : Nat) (a b : List Int), (mergeF m a b).Perm (a ++ b)
  | 0, a, b => List.Perm.refl _
  | m + 1, [], b => List.Perm.refl _
  | m + 1, x :: a, [] => by rw [mergeF_nil', List.append_nil]
  | m + 1, x :: a, y :: b => by
    by_cases c : x > y
    · simp only [mergeF, c, ↓reduceIte]
      have h := mergeF_perm m b (x :: a)
      exact ((h.cons y).trans (List.perm_append_comm (l₁ := y :: b) (l₂ := x :: a)))
    · simp only [mergeF, c, ↓reduceIte]
      exact (mergeF_perm m a (y :: b)).cons x
theorem mergeF_sorted : ∀ (m : Nat) (a b : List Int), a.length + b.length ≤ m → a.Pairwise (· ≤ ·) → b.Pairwise (· ≤ ·) → (mergeF m a b).Pairwise (· ≤ ·)
  | 0, a, b, hl, _, _ => by
    obtain rfl := List.length_eq_zero_iff.1 (show a.length = 0 by omega)
    obtain rfl := List.length_eq_zero_iff.1 (show b.length = 0 by omega)
    exact List.Pairwise.nil
  | m + 1, [], b, _, _, hb => hb
  | m + 1, x :: a, [], _, ha, _ => by rw [mergeF_nil']; exact ha
  | m + 1, x :: a, y :: b, hl, ha, hb => by
    simp only [List.length_cons] at hl
    have ha' := List.pairwise_cons.1 ha
    have hb' := List.pairwise_cons.1 hb
    by_cases c : x > y
    · simp only [mergeF, c, ↓reduceIte]
      refine List.pairwise_cons.2 ⟨fun z hz => ?_, mergeF_sorted m b (x :: a) (by simp only [List.length_cons]; omega) hb'.2 ha⟩
      have := (mergeF_perm m b (x :: a)).mem_iff.1 hz
      rcases List.mem_append.1 this with h | h
      · exact hb'.1 z h
      · rcases List.mem_cons.1 h with rfl | h
        · omega
        · have := ha'.1 z h; omega
    · simp only [mergeF, c, ↓reduceIte]
      refine List.pairwise_cons.2 ⟨fun z hz => ?_, mergeF_sorted m a (y :: b) (by simp only [List.length_cons]; omega) ha'.2 hb⟩
      have := (mergeF_perm m a (y :: b)).mem_iff.1 hz
      rcases List.mem_append.1 this with h | h
      · exact ha'.1 z h
      · rcases List.mem_cons.1 h with rfl | h
        · omega
        · have := hb'.1 z h; omega
theorem sorted_leI (l : List Int) : (l.mergeSort leI).Pairwise (· ≤ ·) := by
  have := List.pairwise_mergeSort (le := leI) (fun a b c hab hbc => by simp [leI] at *; omega) (fun a b => by simp [leI]; omega) l
  exact this.imp (fun h => by simpa [leI] using h)
theorem merge_eq {a b : List Int} (ha : a.Pairwise (· ≤ ·)) (hb : b.Pairwise (· ≤ ·)) (hl : a.length + b.length ≤ 8796093022208) : store_merge.f a b = some ((a ++ b).mergeSort leI) := by
  unfold store_merge.f
  rw [if_pos hl]
  congr 1
  exact sorted_eq (mergeF_perm _ a b) (mergeF_sorted _ a b (Nat.le_refl _) ha hb)
theorem rowUp_sorted {row : List Int} (h : RowUp row 0) : row.Pairwise (· ≤ ·) := by
  rw [List.pairwise_iff_getElem]
  intro i j hi hj hij
  have := rowUp_lt h j i hij hj
  rw [rd_get _ _ hi, rd_get _ _ hj] at this
  omega
end Go.Proofs.Ytkakmghadhafjaa.Pure
