/- Small words for walks by hand, over the print's own (Kd): what stays of a row behind a store into an elder block; what a contract that makes memory leaves of the elder cells. -/
import Derived.Test.YtmlkkpkaaicobaaDoorWMore
import Derived.Defers
import Derived.Recover
import Derived.WalkSpells
import Derived.WalkSmall
namespace Go.Proofs.YtmlkkpkaaicobaaDoor.Hand
open Go.RowKit Go.Proofs.YtmlkkpkaaicobaaDoorW.PrintWords Go.Proofs.YtmlkkpkaaicobaaDoorW.PrintLast
set_option linter.unusedVariables false
theorem bcell {W w1 : World} (hb : Below W.heap.size W w1) : (∀ b o, b < W.heap.size → w1.cell? ⟨b, o, none⟩ = W.cell? ⟨b, o, none⟩) ∧ (∀ b o, b < W.heap.size → w1.frozen? ⟨b, o, none⟩ = W.frozen? ⟨b, o, none⟩) :=
  ⟨fun b o h => hb.cell (p := ⟨b, o, none⟩) h, fun b o h => hb.frozen (p := ⟨b, o, none⟩) h⟩
theorem R_setb {α : Type} {d : Kd α} {e : Nat} {w : World} {base : Nat} {ok : Nat → Prop} {v : Value} {xs : List α} (h : d.R e w base ok v xs) {p : Addr} (hp : p.block < base) (u : Value) : d.R e (w.setCell p u) base ok v xs :=
  Kd.R_mono (Kd.R_far (Kd.R_bound h) (fun k hk => by have := hk.2.1; omega) u) (fun _ hk => hk.1)
/-- A read row of no elements. -/
theorem C_nil_of {α : Type} {d : Kd α} {w : World} {n : Nat} {xs : List α} (h : d.C w none n xs) : xs = [] := by
  cases xs with
  | nil => rfl
  | cons x xs =>
    obtain ⟨h1, _, h⟩ := h
    obtain ⟨ad, h, _⟩ := h (by simp at h1; omega)
    cases h
/-- A cut of a row of the call's own, with no room behind it: it is only read. -/
theorem V_cut {α : Type} {d : Kd α} {e : Nat} {w : World} {base base' n c : Nat} {ok : Nat → Prop} {A : Option Addr} {xs : List α} (h : d.R e w base ok (.slice A n c) xs) (j j' : Nat) (hj : j ≤ xs.length) (hj' : j' = j) :
    Kd.V d e w base' (fun k => base ≤ k) (.slice A j' j') (xs.take j) := by
  subst hj'
  have hn := (Kd.R_reads' h).1
  subst hn
  have hf := Kd.F_mono (Kd.R_F (Kd.R_bound h)) (ok' := fun k => base ≤ k) (fun k hk => hk.2.1)
  have hl : (xs.take j').length = j' := by rw [List.length_take]; omega
  have := Kd.V_mk (d := d) (e := e) (base := base') (c := j') (xs := xs.take j') (by omega) (Kd.F_imp hf (fun W hW => Kd.C_take hW hj))
  rw [hl] at this
  exact this
theorem size_alloc (w : World) (o : Obj) : (w.alloc o).heap.size = w.heap.size + 1 := by simp
end Go.Proofs.YtmlkkpkaaicobaaDoor.Hand
