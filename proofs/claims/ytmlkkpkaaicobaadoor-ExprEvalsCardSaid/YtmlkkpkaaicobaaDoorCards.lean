/-
  DERIVED. GIVEN WITH THE SEED: THE CARDS: each row of YtmlkkpkaaicobaaDoorRows.lean that lists a variable, with what it lists TIED to the program's text (the seventh form; the later family's looks); each row that meets fmt, with fmt's text TOLD by the authors' own Lean function (tested against real Go, not proved from fmt's source: count such statements apart). THE CARD IS WHAT COUNTS. Prove the row's statement (the work); the ties are given (YtmlkkpkaaicobaaDoorTie.lean); close each card by the builder's one call (the guide's Derived/Test/ToyasCard.lean, 'card_holds'). Laid BY PROGRAM, IN A SANDBOX (cutbox-door.mjs). By AI agents, Wed Nov 11 2026. No macro, syntax, notation, axiom, sorry.
-/
import Derived.Test.YtmlkkpkaaicobaaDoorRows
import GoSem.ClaimSeven
namespace Go.Proofs.YtmlkkpkaaicobaaDoor
namespace Rows

/-- THE TIED CARD OF 'foretelllaw.PolishParts'. -/
def polishPartsCard : Claim7 := { stood := { row := polishPartsRow, standIns := [], harness := (true, "73bb6686295ce7077a9c4be9a152e01613cd79c73e9ecdd949159428c67307c7"), looks := true }, kinds := [], alts := [], laidByText := true, laidKinds := [.data], laidTests := true, laidLooks := .later }
def PolishPartsCardSaid : Prop := Claim7.holds Tryd.pinned (.plain (OpenSpec.ofChange polishPartsSpec)) polishPartsCard

/-- THE TIED CARD OF 'foretelllaw.PolishEnds'. -/
def polishEndsCard : Claim7 := { stood := { row := polishEndsRow, standIns := [], harness := (true, "73bb6686295ce7077a9c4be9a152e01613cd79c73e9ecdd949159428c67307c7"), looks := true }, kinds := [], alts := [], laidByText := true, laidKinds := [.data], laidTests := true, laidLooks := .later }
def PolishEndsCardSaid : Prop := Claim7.holds Tryd.pinned (.plain (OpenSpec.ofChange polishEndsSpec)) polishEndsCard

/-- THE TIED CARD OF 'foretelllaw.PolishSplits'. -/
def polishSplitsCard : Claim7 := { stood := { row := polishSplitsRow, standIns := [], harness := (true, "73bb6686295ce7077a9c4be9a152e01613cd79c73e9ecdd949159428c67307c7"), looks := true }, kinds := [], alts := [], laidByText := true, laidKinds := [.data], laidTests := true, laidLooks := .later }
def PolishSplitsCardSaid : Prop := Claim7.holds Tryd.pinned (.plain (OpenSpec.ofChange polishSplitsSpec)) polishSplitsCard

/-- THE TIED CARD OF 'foretelllaw.PolishDepths'. -/
def polishDepthsCard : Claim7 := { stood := { row := polishDepthsRow, standIns := [], harness := (true, "73bb6686295ce7077a9c4be9a152e01613cd79c73e9ecdd949159428c67307c7"), looks := true }, kinds := [], alts := [], laidByText := true, laidKinds := [.data], laidTests := true, laidLooks := .later }
def PolishDepthsCardSaid : Prop := Claim7.holds Tryd.pinned (.plain (OpenSpec.ofChange polishDepthsSpec)) polishDepthsCard

/-- THE TIED CARD OF 'foretelllaw.LogicChecks'. -/
def logicChecksCard : Claim7 := { stood := { row := logicChecksRow, standIns := [], harness := (true, "73bb6686295ce7077a9c4be9a152e01613cd79c73e9ecdd949159428c67307c7"), looks := true }, kinds := [], alts := [], laidByText := true, laidKinds := [.data], laidTests := true, laidLooks := .later }
def LogicChecksCardSaid : Prop := Claim7.holds Tryd.pinned (.plain (OpenSpec.ofChange logicChecksSpec)) logicChecksCard

/-- THE TIED CARD OF 'foretelllaw.LogicAheads'. -/
def logicAheadsCard : Claim7 := { stood := { row := logicAheadsRow, standIns := [], harness := (true, "73bb6686295ce7077a9c4be9a152e01613cd79c73e9ecdd949159428c67307c7"), looks := true }, kinds := [], alts := [], laidByText := true, laidKinds := [.data], laidTests := true, laidLooks := .later }
def LogicAheadsCardSaid : Prop := Claim7.holds Tryd.pinned (.plain (OpenSpec.ofChange logicAheadsSpec)) logicAheadsCard

/-- THE TIED CARD OF 'foretelllaw.ExprChecks'. -/
def exprChecksCard : Claim7 := { stood := { row := exprChecksRow, standIns := [], harness := (true, "73bb6686295ce7077a9c4be9a152e01613cd79c73e9ecdd949159428c67307c7"), looks := true }, kinds := [], alts := [], laidByText := true, laidKinds := [.data], laidTests := true, laidLooks := .later }
def ExprChecksCardSaid : Prop := Claim7.holds Tryd.pinned (.plain (OpenSpec.ofChange exprChecksSpec)) exprChecksCard

/-- THE TIED CARD OF 'foretelllaw.LogicTruths'. -/
def logicTruthsCard : Claim7 := { stood := { row := logicTruthsRow, standIns := [], harness := (true, "73bb6686295ce7077a9c4be9a152e01613cd79c73e9ecdd949159428c67307c7"), looks := true }, kinds := [], alts := [], laidByText := true, laidKinds := [.data], laidTests := true, laidLooks := .later }
def LogicTruthsCardSaid : Prop := Claim7.holds Tryd.pinned (.plain (OpenSpec.ofChange logicTruthsSpec)) logicTruthsCard

/-- THE TIED CARD OF 'foretelllaw.LogicMeets'. -/
def logicMeetsCard : Claim7 := { stood := { row := logicMeetsRow, standIns := [], harness := (true, "73bb6686295ce7077a9c4be9a152e01613cd79c73e9ecdd949159428c67307c7"), looks := true }, kinds := [], alts := [], laidByText := true, laidKinds := [.data], laidTests := true, laidLooks := .later }
def LogicMeetsCardSaid : Prop := Claim7.holds Tryd.pinned (.plain (OpenSpec.ofChange logicMeetsSpec)) logicMeetsCard

/-- THE TIED CARD OF 'foretelllaw.LogicFollows'. -/
def logicFollowsCard : Claim7 := { stood := { row := logicFollowsRow, standIns := [], harness := (true, "73bb6686295ce7077a9c4be9a152e01613cd79c73e9ecdd949159428c67307c7"), looks := true }, kinds := [], alts := [], laidByText := true, laidKinds := [.data], laidTests := true, laidLooks := .later }
def LogicFollowsCardSaid : Prop := Claim7.holds Tryd.pinned (.plain (OpenSpec.ofChange logicFollowsSpec)) logicFollowsCard

/-- THE TIED CARD OF 'foretelllaw.ExprEvals'. -/
def exprEvalsCard : Claim7 := { stood := { row := exprEvalsRow, standIns := [], harness := (true, "73bb6686295ce7077a9c4be9a152e01613cd79c73e9ecdd949159428c67307c7"), looks := true }, kinds := [], alts := [], laidByText := true, laidKinds := [.data], laidTests := true, laidLooks := .later }
def ExprEvalsCardSaid : Prop := Claim7.holds Tryd.pinned (.plain (OpenSpec.ofChange exprEvalsSpec)) exprEvalsCard

/-- THE SECOND FORM's CARD OF 'foretelllaw.PolishParts'. -/
def polishPartsUptoCard : Claim7 := { stood := { row := polishPartsUptoRow, standIns := [], harness := (true, "73bb6686295ce7077a9c4be9a152e01613cd79c73e9ecdd949159428c67307c7"), looks := true }, kinds := [], alts := [], laidByText := true, laidKinds := [.data], laidTests := true, laidLooks := .later }
def PolishPartsUptoCardSaid : Prop := Claim7.holds Tryd.pinned (.plain (OpenSpec.upto polishPartsSpec)) polishPartsUptoCard

/-- THE SECOND FORM's CARD OF 'foretelllaw.PolishEnds'. -/
def polishEndsUptoCard : Claim7 := { stood := { row := polishEndsUptoRow, standIns := [], harness := (true, "73bb6686295ce7077a9c4be9a152e01613cd79c73e9ecdd949159428c67307c7"), looks := true }, kinds := [], alts := [], laidByText := true, laidKinds := [.data], laidTests := true, laidLooks := .later }
def PolishEndsUptoCardSaid : Prop := Claim7.holds Tryd.pinned (.plain (OpenSpec.upto polishEndsSpec)) polishEndsUptoCard

/-- THE SECOND FORM's CARD OF 'foretelllaw.PolishSplits'. -/
def polishSplitsUptoCard : Claim7 := { stood := { row := polishSplitsUptoRow, standIns := [], harness := (true, "73bb6686295ce7077a9c4be9a152e01613cd79c73e9ecdd949159428c67307c7"), looks := true }, kinds := [], alts := [], laidByText := true, laidKinds := [.data], laidTests := true, laidLooks := .later }
def PolishSplitsUptoCardSaid : Prop := Claim7.holds Tryd.pinned (.plain (OpenSpec.upto polishSplitsSpec)) polishSplitsUptoCard

/-- THE SECOND FORM's CARD OF 'foretelllaw.PolishDepths'. -/
def polishDepthsUptoCard : Claim7 := { stood := { row := polishDepthsUptoRow, standIns := [], harness := (true, "73bb6686295ce7077a9c4be9a152e01613cd79c73e9ecdd949159428c67307c7"), looks := true }, kinds := [], alts := [], laidByText := true, laidKinds := [.data], laidTests := true, laidLooks := .later }
def PolishDepthsUptoCardSaid : Prop := Claim7.holds Tryd.pinned (.plain (OpenSpec.upto polishDepthsSpec)) polishDepthsUptoCard

/-- THE SECOND FORM's CARD OF 'foretelllaw.LogicChecks'. -/
def logicChecksUptoCard : Claim7 := { stood := { row := logicChecksUptoRow, standIns := [], harness := (true, "73bb6686295ce7077a9c4be9a152e01613cd79c73e9ecdd949159428c67307c7"), looks := true }, kinds := [], alts := [], laidByText := true, laidKinds := [.data], laidTests := true, laidLooks := .later }
def LogicChecksUptoCardSaid : Prop := Claim7.holds Tryd.pinned (.plain (OpenSpec.upto logicChecksSpec)) logicChecksUptoCard

/-- THE SECOND FORM's CARD OF 'foretelllaw.LogicAheads'. -/
def logicAheadsUptoCard : Claim7 := { stood := { row := logicAheadsUptoRow, standIns := [], harness := (true, "73bb6686295ce7077a9c4be9a152e01613cd79c73e9ecdd949159428c67307c7"), looks := true }, kinds := [], alts := [], laidByText := true, laidKinds := [.data], laidTests := true, laidLooks := .later }
def LogicAheadsUptoCardSaid : Prop := Claim7.holds Tryd.pinned (.plain (OpenSpec.upto logicAheadsSpec)) logicAheadsUptoCard

/-- THE SECOND FORM's CARD OF 'foretelllaw.ExprChecks'. -/
def exprChecksUptoCard : Claim7 := { stood := { row := exprChecksUptoRow, standIns := [], harness := (true, "73bb6686295ce7077a9c4be9a152e01613cd79c73e9ecdd949159428c67307c7"), looks := true }, kinds := [], alts := [], laidByText := true, laidKinds := [.data], laidTests := true, laidLooks := .later }
def ExprChecksUptoCardSaid : Prop := Claim7.holds Tryd.pinned (.plain (OpenSpec.upto exprChecksSpec)) exprChecksUptoCard

/-- THE SECOND FORM's CARD OF 'foretelllaw.LogicTruths'. -/
def logicTruthsUptoCard : Claim7 := { stood := { row := logicTruthsUptoRow, standIns := [], harness := (true, "73bb6686295ce7077a9c4be9a152e01613cd79c73e9ecdd949159428c67307c7"), looks := true }, kinds := [], alts := [], laidByText := true, laidKinds := [.data], laidTests := true, laidLooks := .later }
def LogicTruthsUptoCardSaid : Prop := Claim7.holds Tryd.pinned (.plain (OpenSpec.upto logicTruthsSpec)) logicTruthsUptoCard

/-- THE SECOND FORM's CARD OF 'foretelllaw.LogicMeets'. -/
def logicMeetsUptoCard : Claim7 := { stood := { row := logicMeetsUptoRow, standIns := [], harness := (true, "73bb6686295ce7077a9c4be9a152e01613cd79c73e9ecdd949159428c67307c7"), looks := true }, kinds := [], alts := [], laidByText := true, laidKinds := [.data], laidTests := true, laidLooks := .later }
def LogicMeetsUptoCardSaid : Prop := Claim7.holds Tryd.pinned (.plain (OpenSpec.upto logicMeetsSpec)) logicMeetsUptoCard

/-- THE SECOND FORM's CARD OF 'foretelllaw.LogicFollows'. -/
def logicFollowsUptoCard : Claim7 := { stood := { row := logicFollowsUptoRow, standIns := [], harness := (true, "73bb6686295ce7077a9c4be9a152e01613cd79c73e9ecdd949159428c67307c7"), looks := true }, kinds := [], alts := [], laidByText := true, laidKinds := [.data], laidTests := true, laidLooks := .later }
def LogicFollowsUptoCardSaid : Prop := Claim7.holds Tryd.pinned (.plain (OpenSpec.upto logicFollowsSpec)) logicFollowsUptoCard

/-- THE SECOND FORM's CARD OF 'foretelllaw.ExprEvals'. -/
def exprEvalsUptoCard : Claim7 := { stood := { row := exprEvalsUptoRow, standIns := [], harness := (true, "73bb6686295ce7077a9c4be9a152e01613cd79c73e9ecdd949159428c67307c7"), looks := true }, kinds := [], alts := [], laidByText := true, laidKinds := [.data], laidTests := true, laidLooks := .later }
def ExprEvalsUptoCardSaid : Prop := Claim7.holds Tryd.pinned (.plain (OpenSpec.upto exprEvalsSpec)) exprEvalsUptoCard
end Rows
end Go.Proofs.YtmlkkpkaaicobaaDoor
