/- The table of package polish, as the program lays it: what it holds, and that it stays. -/
import Derived.Test.YtkpddelnkjjflaaDoorWMore
namespace Go.Proofs.YtkpddelnkjjflaaDoor
open Go.RowKit Go.Proofs.YtkpddelnkjjflaaDoorW.PrintWords Go.Proofs.YtkpddelnkjjflaaDoorW.PrintLast
def polishTab : List Int := [-1, 0, 0, 2, 2, 2, 2, 2, 2, 2, 1, 0, 0, 0, 1, 2, 2, 1, 1]
/-- The table reads as laid. -/
def LaidG (w : World) : Prop := ∀ i, i < 19 → w.cell? ⟨0, i, none⟩ = some (.int .i64 (polishTab.getD i 0))
theorem LaidG.below {w W : World} (h : LaidG w) (hb : Below w.heap.size w W) : LaidG W := fun i hi => pw_cell_below hb (h i hi)
theorem LaidG.of_cells {w W : World} (h : LaidG w) (hc : ∀ i, i < 19 → W.cell? ⟨0, i, none⟩ = w.cell? ⟨0, i, none⟩) : LaidG W := fun i hi => (hc i hi).trans (h i hi)
end Go.Proofs.YtkpddelnkjjflaaDoor
