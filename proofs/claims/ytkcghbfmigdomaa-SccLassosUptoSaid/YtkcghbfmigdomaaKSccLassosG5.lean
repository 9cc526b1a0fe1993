import Derived.Defers
import Derived.Recover
import Derived.WalkSpells
import Derived.WalkSmall
import Derived.Test.YtkcghbfmigdomaaKSccLassosG3
-- Cut by a program of this session (wip/prune.py) from a longer text: declarations that the law does not need are left out.
namespace Go.Proofs.Ytkcghbfmigdomaa.Hand
open Go.RowKit Go.Proofs.YtkcghbfmigdomaaW.PrintWords Go.Proofs.YtkcghbfmigdomaaW.PrintLast
set_option linter.unusedVariables false
theorem grownBy_set {w w' : World} {g : Nat} (h : w.grownBy w' (some g)) (j : Nat) (u : Value) : w.grownBy (w'.setCell ⟨g, j, none⟩ u) (some g) :=
  ⟨h.os, h.tape, h.output, by simp [h.size], fun i hi hne => by
    rw [Below.heap_setCell w' ⟨g, j, none⟩ u i (by intro e; exact hne (by rw [e]))]
    exact h.block i hi hne⟩
theorem R_of_block {k : IntKind} {e g base : Nat} {w : World} {xs : List Int} (h : w.heap[g]? = some (.cells (nums k xs).toArray e (0, 0))) (hb : base ≤ g) (hm : xs.length ≤ 9223372036854775807) :
    Kd.R (Kd.int k) e w base (fun _ => True) (.slice (some ⟨g, 0, none⟩) xs.length xs.length) xs := by
  refine ⟨fun _ _ => trivial, nums k xs, ⟨by simp [nums_length, Kd.int, Kd.scalar], .inr ⟨g, xs.length, (nums k xs).toArray, rfl, hb, h, Nat.le_refl _, by simpa [maxLen] using hm, by simp [nums_length, Kd.int, Kd.scalar], by show (nums k xs).take (xs.length * 1) = nums k xs; rw [Nat.mul_one]; exact List.take_of_length_le (by rw [nums_length]; omega)⟩⟩, ?_⟩
  refine ⟨by simp [nums_length, Kd.int, Kd.scalar], fun j p hj => ?_⟩
  have : (nums k xs)[j]? = some (.int k p) := by simp [nums, hj]
  show (((nums k xs).drop (j * 1)).take 1) = [.int k p]
  rw [Nat.mul_one]
  obtain ⟨hlt, he⟩ := List.getElem?_eq_some_iff.1 this
  rw [List.drop_eq_getElem_cons hlt, List.take_succ_cons, List.take_zero, he]
theorem heap_new (w : World) (o : Obj) : (w.alloc o).heap[w.heap.size]? = some o := (MapKept.heap_alloc w o).1
theorem grownBy_trans {w w1 w2 : World} {row : Option Nat} (h : w.grownBy w1 row) (k : w1.grownBy w2 row) : w.grownBy w2 row :=
  ⟨k.os.trans h.os, k.tape.trans h.tape, k.output.trans h.output, Nat.le_trans h.size k.size, fun i hi hne => (k.block i (Nat.lt_of_lt_of_le hi h.size) hne).trans (h.block i hi hne)⟩
theorem made_nums (n : Nat) : madeCells #[Value.int .i64 0] n = (nums .i64 (List.replicate n 0)).toArray := by
  apply Array.ext'
  simp [madeCells, nums]
  apply List.ext_getElem
  · simp
  · intro i h1 h2
    simp [Nat.mod_one]
theorem size_alloc (w : World) (o : Obj) : (w.alloc o).heap.size = w.heap.size + 1 := by simp
end Go.Proofs.Ytkcghbfmigdomaa.Hand
namespace Go.Proofs.Ytkcghbfmigdomaa.Al
open Go.RowKit Go.Proofs.YtkcghbfmigdomaaW.PrintWords Go.Proofs.YtkcghbfmigdomaaW.PrintLast
theorem zA {p : Prop} (h : p) : Aside0 p := ⟨h⟩
theorem zP {p : Prop} [Decidable p] (h : decide p = true) : p := of_decide_eq_true h
theorem zQ {p : Prop} [Decidable p] (h : p) : decide p = true := decide_eq_true h
theorem zR {p : Prop} [Decidable p] (h : ¬ p) : decide p = false := decide_eq_false h
end Go.Proofs.Ytkcghbfmigdomaa.Al
