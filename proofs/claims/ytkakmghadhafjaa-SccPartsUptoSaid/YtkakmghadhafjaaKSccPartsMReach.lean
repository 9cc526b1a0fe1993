-- Cut by a program of this session (wip/prune.py) from a longer text: declarations that the law does not need are left out.
import Derived.Test.YtkakmghadhafjaaKSccPartsMGraph
import Derived.Test.YtkakmghadhafjaaKSccPartsQx0
import Derived.Test.YtkakmghadhafjaaKSccPartsQx8
import Derived.Test.YtkakmghadhafjaaKSccPartsQx9
import Derived.Test.YtkakmghadhafjaaKSccPartsQx0
import Derived.Test.YtkakmghadhafjaaKSccPartsQx2
import Derived.Test.YtkakmghadhafjaaKSccPartsMEv
namespace Go.Proofs.Ytkakmghadhafjaa.Pure
open Go.RowKit Go.Proofs.Ytkakmghadhafjaa.Q Go.Proofs.Ytkakmghadhafjaa.Base Go.Proofs.YtkakmghadhafjaaW.PrintWords Go.Proofs.YtkakmghadhafjaaW.PrintLast Go.Proofs.YtkakmghadhafjaaW.PrintMore
set_option linter.unusedVariables false
inductive Reach (next : List (List Int)) (frm : Int → Prop) : Int → Prop
  | start (x : Int) : frm x → Reach next frm x
  | step (a b : Int) : Reach next frm a → b ∈ rd_L3 next a → Reach next frm b
def tru (s : List Bool) (x : Int) : Prop := s.getD x.toNat false = true
section
variable (next : List (List Int)) (frm : Int → Prop) (n : Nat) (hN : next.length = n) (hin : ∀ a, ∀ b ∈ rd_L3 next a, 0 ≤ b ∧ b < (n : Int)) (hf : ∀ x, frm x → 0 ≤ x ∧ x < (n : Int)) (hn : n ≤ 20000) (hl : ∀ a, (rd_L3 next a).length ≤ 9223372036854775807)
def GoodR (r : List Bool) : Prop := r.length = n ∧ ∀ x : Int, 0 ≤ x → x < (n : Int) → (tru r x ↔ Reach next frm x)
include hin hf in
theorem reach_in {x : Int} (h : Reach next frm x) : 0 ≤ x ∧ x < (n : Int) := by
  cases h with
  | start _ h => exact hf _ h
  | step a _ _ h => exact hin a _ h
include hin in
def Res (g : Nat → Option (List Bool)) : Prop := ∃ r, GoodR next frm n r ∧ Ev g r
include hN hin hf hn hl
omit hN hn hl in
end
end Go.Proofs.Ytkakmghadhafjaa.Pure
