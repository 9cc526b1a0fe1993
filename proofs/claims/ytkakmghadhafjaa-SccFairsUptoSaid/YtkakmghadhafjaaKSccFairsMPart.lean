-- Cut by a program of this session (wip/prune.py) from a longer text: declarations that the law does not need are left out.
import Derived.Test.YtkakmghadhafjaaKSccFairsMTurn
namespace Go.Proofs.Ytkakmghadhafjaa.Pure
open Go.RowKit Go.Proofs.Ytkakmghadhafjaa.Q Go.Proofs.Ytkakmghadhafjaa.Base Go.Proofs.YtkakmghadhafjaaW.PrintWords Go.Proofs.YtkakmghadhafjaaW.PrintLast Go.Proofs.YtkakmghadhafjaaW.PrintMore
set_option linter.unusedVariables false
def Mut (next : List (List Int)) (x y : Int) : Prop := Leads next x y ∧ Leads next y x
theorem Mut.refl (next : List (List Int)) (x : Int) : Mut next x x := ⟨.refl _ _, .refl _ _⟩
theorem Mut.symm {next : List (List Int)} {x y : Int} (h : Mut next x y) : Mut next y x := ⟨h.2, h.1⟩
theorem Mut.trans {next : List (List Int)} {x y z : Int} (h : Mut next x y) (k : Mut next y z) : Mut next x z := ⟨h.1.trans k.1, k.2.trans h.2⟩
def Least (next : List (List Int)) (x y : Int) : Prop := Mut next x y ∧ ∀ z, Mut next x z → y ≤ z
theorem Least.unique {next : List (List Int)} {x y z : Int} (h : Least next x y) (k : Least next x z) : y = z := Int.le_antisymm (h.2 z k.1) (k.2 y h.1)
theorem Least.same {next : List (List Int)} {x x' y : Int} (h : Least next x y) (m : Mut next x x') : Least next x' y := ⟨m.symm.trans h.1, fun z hz => h.2 z (m.trans hz)⟩
def GoodP (next : List (List Int)) (n : Nat) (p : List Int) : Prop := p.length = n ∧ ∀ x : Int, 0 ≤ x → x < (n : Int) → Least next x (rd p x)
theorem goodP_eq {next : List (List Int)} {n : Nat} {p p' : List Int} (h : GoodP next n p) (h' : GoodP next n p') : p = p' := by
  refine List.ext_getElem (h.1.trans h'.1.symm) (fun i hi hi' => ?_)
  have e1 := h.2 i (by omega) (by rw [h.1] at hi; omega)
  have e2 := h'.2 i (by omega) (by rw [h.1] at hi; omega)
  rw [rd_get p i hi] at e1
  rw [rd_get p' i hi'] at e2
  exact e1.unique e2
theorem mut_of_closed {next : List (List Int)} {x : Int} {S D : Int → Prop} (hx : S x) (hS : ∀ a, S a → ∀ b ∈ rd_L3 next a, S b ∨ D b) (hD : ∀ a, D a → ∀ b ∈ rd_L3 next a, D b) {y : Int} (h : Leads next x y) : S y ∨ D y := by
  induction h with
  | start z e => subst e; exact .inl hx
  | step a b _ hb ih =>
    rcases ih with h | h
    · exact hS a h b hb
    · exact .inr (hD a h b hb)
theorem closed_leads {next : List (List Int)} {D : Int → Prop} (hD : ∀ a, D a → ∀ b ∈ rd_L3 next a, D b) {x y : Int} (hx : D x) (h : Leads next x y) : D y := by
  induction h with
  | start z e => subst e; exact hx
  | step a b _ hb ih => exact hD a ih b hb
theorem segment_part {next : List (List Int)} {x : Int} {S D : Int → Prop} (hx : S x) (hm : ∀ y, S y → Mut next x y) (hS : ∀ a, S a → ∀ b ∈ rd_L3 next a, S b ∨ D b) (hD : ∀ a, D a → ∀ b ∈ rd_L3 next a, D b) (hn : ¬ D x) {y : Int} : Mut next x y ↔ S y :=
  ⟨fun h => (mut_of_closed hx hS hD h.1).elim id (fun d => absurd (closed_leads hD d h.2) hn), hm y⟩
end Go.Proofs.Ytkakmghadhafjaa.Pure
