-- Cut by a program of this session (wip/prune.py) from a longer text: declarations that the law does not need are left out.
import Derived.Test.YtkakmghadhafjaaKStoreAllsRx0
import Derived.Test.YtkakmghadhafjaaKStoreAllsRx25
import Derived.Test.YtkakmghadhafjaaKStoreAllsRx0
import Derived.Test.YtkakmghadhafjaaKStoreAllsRx29
import Derived.Test.YtkakmghadhafjaaKStoreAllsRx30
import Derived.Test.YtkakmghadhafjaaKStoreAllsRx32
import Derived.Test.YtkakmghadhafjaaKStoreAllsMStore
namespace Go.Proofs.Ytkakmghadhafjaa.Pure
open Go.RowKit Go.Proofs.Ytkakmghadhafjaa.R Go.Proofs.Ytkakmghadhafjaa.Base Go.Proofs.YtkakmghadhafjaaW.PrintWords Go.Proofs.YtkakmghadhafjaaW.PrintLast Go.Proofs.YtkakmghadhafjaaW.PrintMore
set_option linter.unusedVariables false
set_option linter.unusedSimpArgs false
theorem rowUp_lt {row : List Int} (h : RowUp row 0) : ∀ (j i : Nat), i < j → j < row.length → rd row (i : Int) < rd row (j : Int)
  | 0, i, hi, _ => by omega
  | j + 1, i, hi, hj => by
    have h1 := h (j + 1) (Nat.zero_le _) hj (by omega)
    have e : (((j + 1 : Nat) : Int)) - 1 = (j : Int) := by omega
    rw [e] at h1
    by_cases c : i = j
    · rw [c]; exact h1
    · have := rowUp_lt h j i (by omega) (by omega)
      omega
theorem row_flat {runs : List (List Int)} {r : List Int} (h : r ∈ runs) : r.length ≤ runs.flatten.length := by
  induction runs with
  | nil => cases h
  | cons a l ih =>
    simp only [List.flatten_cons, List.length_append]
    rcases List.mem_cons.1 h with rfl | h
    · omega
    · have := ih h; omega
theorem runs_flat {runs : List (List Int)} (h : ∀ r ∈ runs, r ≠ []) : runs.length ≤ runs.flatten.length := by
  induction runs with
  | nil => simp
  | cons a l ih =>
    have h1 := ih (fun r hr => h r (by simp [hr]))
    have h2 : a.length ≠ 0 := fun e => h a (by simp) (List.length_eq_zero_iff.1 e)
    simp only [List.flatten_cons, List.length_append, List.length_cons]
    omega
end Go.Proofs.Ytkakmghadhafjaa.Pure
