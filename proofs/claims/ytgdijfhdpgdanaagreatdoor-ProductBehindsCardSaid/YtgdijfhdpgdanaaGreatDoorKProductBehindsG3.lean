import Derived.Test.YtgdijfhdpgdanaaGreatDoorKProductBehindsG2
namespace Go.Proofs.YtgdijfhdpgdanaaGreatDoor
open Go.RowKit Go.Proofs.YtgdijfhdpgdanaaGreatDoorW.PrintWords Go.Proofs.YtgdijfhdpgdanaaGreatDoorW.PrintLast
def polishTab : List Int := [-1, 0, 0, 2, 2, 2, 2, 2, 2, 2, 1, 0, 0, 0, 1, 2, 2, 1, 1]
def LaidG (w : World) : Prop := ∀ i, i < 19 → w.cell? ⟨0, i, none⟩ = some (.int .i64 (polishTab.getD i 0))
theorem LaidG.below {w W : World} (h : LaidG w) (hb : Below w.heap.size w W) : LaidG W := fun i hi => pw_cell_below hb (h i hi)
end Go.Proofs.YtgdijfhdpgdanaaGreatDoor
