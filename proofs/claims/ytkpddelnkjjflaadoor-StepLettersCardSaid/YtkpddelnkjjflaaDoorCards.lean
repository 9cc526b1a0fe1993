/-
  DERIVED. GIVEN WITH THE SEED: THE CARDS: each row of YtkpddelnkjjflaaDoorRows.lean that lists a variable, with what it lists TIED to the program's text (the seventh form; the later family's looks); each row that meets fmt, with fmt's text TOLD by the authors' own Lean function (tested against real Go, not proved from fmt's source: count such statements apart). THE CARD IS WHAT COUNTS. Prove the row's statement (the work); the ties are given (YtkpddelnkjjflaaDoorTie.lean); close each card by the builder's one call (the guide's Derived/Test/ToyasCard.lean, 'card_holds'). Laid BY PROGRAM, IN A SANDBOX (cutbox-door.mjs). By AI agents, Wed Nov 11 2026. No macro, syntax, notation, axiom, sorry.
-/
import Derived.Test.YtkpddelnkjjflaaDoorRows
import GoSem.ClaimSeven
namespace Go.Proofs.YtkpddelnkjjflaaDoor
namespace Rows

/-- THE TIED CARD OF 'foretelllaw.ModelChecks'. -/
def modelChecksCard : Claim7 := { stood := { row := modelChecksRow, standIns := [], harness := (true, "a45d9a56f63fecad78e8dd52d87f96b69369c6a37304d5ea4d09c79589ff91dd"), looks := true }, kinds := [], alts := [], laidByText := true, laidKinds := [.data], laidTests := true, laidLooks := .later }
def ModelChecksCardSaid : Prop := Claim7.holds Tryd.pinned (.plain (OpenSpec.ofChange modelChecksSpec)) modelChecksCard

/-- THE TIED CARD OF 'foretelllaw.ModelCounts'. -/
def modelCountsCard : Claim7 := { stood := { row := modelCountsRow, standIns := [], harness := (true, "a45d9a56f63fecad78e8dd52d87f96b69369c6a37304d5ea4d09c79589ff91dd"), looks := true }, kinds := [], alts := [], laidByText := true, laidKinds := [.data], laidTests := true, laidLooks := .later }
def ModelCountsCardSaid : Prop := Claim7.holds Tryd.pinned (.plain (OpenSpec.ofChange modelCountsSpec)) modelCountsCard

/-- THE TIED CARD OF 'foretelllaw.ModelProps'. -/
def modelPropsCard : Claim7 := { stood := { row := modelPropsRow, standIns := [], harness := (true, "a45d9a56f63fecad78e8dd52d87f96b69369c6a37304d5ea4d09c79589ff91dd"), looks := true }, kinds := [], alts := [], laidByText := true, laidKinds := [.data], laidTests := true, laidLooks := .later }
def ModelPropsCardSaid : Prop := Claim7.holds Tryd.pinned (.plain (OpenSpec.ofChange modelPropsSpec)) modelPropsCard

/-- THE TIED CARD OF 'foretelllaw.ModelCodes'. -/
def modelCodesCard : Claim7 := { stood := { row := modelCodesRow, standIns := [], harness := (true, "a45d9a56f63fecad78e8dd52d87f96b69369c6a37304d5ea4d09c79589ff91dd"), looks := true }, kinds := [], alts := [], laidByText := true, laidKinds := [.data], laidTests := true, laidLooks := .later }
def ModelCodesCardSaid : Prop := Claim7.holds Tryd.pinned (.plain (OpenSpec.ofChange modelCodesSpec)) modelCodesCard

/-- THE TIED CARD OF 'foretelllaw.ModelFirsts'. -/
def modelFirstsCard : Claim7 := { stood := { row := modelFirstsRow, standIns := [], harness := (true, "a45d9a56f63fecad78e8dd52d87f96b69369c6a37304d5ea4d09c79589ff91dd"), looks := true }, kinds := [], alts := [], laidByText := true, laidKinds := [.data], laidTests := true, laidLooks := .later }
def ModelFirstsCardSaid : Prop := Claim7.holds Tryd.pinned (.plain (OpenSpec.ofChange modelFirstsSpec)) modelFirstsCard

/-- THE TIED CARD OF 'foretelllaw.ModelValues'. -/
def modelValuesCard : Claim7 := { stood := { row := modelValuesRow, standIns := [], harness := (true, "a45d9a56f63fecad78e8dd52d87f96b69369c6a37304d5ea4d09c79589ff91dd"), looks := true }, kinds := [], alts := [], laidByText := true, laidKinds := [.data], laidTests := true, laidLooks := .later }
def ModelValuesCardSaid : Prop := Claim7.holds Tryd.pinned (.plain (OpenSpec.ofChange modelValuesSpec)) modelValuesCard

/-- THE TIED CARD OF 'foretelllaw.ProductChecks'. -/
def productChecksCard : Claim7 := { stood := { row := productChecksRow, standIns := [], harness := (true, "a45d9a56f63fecad78e8dd52d87f96b69369c6a37304d5ea4d09c79589ff91dd"), looks := true }, kinds := [], alts := [], laidByText := true, laidKinds := [.data], laidTests := true, laidLooks := .later }
def ProductChecksCardSaid : Prop := Claim7.holds Tryd.pinned (.plain (OpenSpec.ofChange productChecksSpec)) productChecksCard

/-- THE TIED CARD OF 'foretelllaw.StepLetters'. -/
def stepLettersCard : Claim7 := { stood := { row := stepLettersRow, standIns := [], harness := (true, "a45d9a56f63fecad78e8dd52d87f96b69369c6a37304d5ea4d09c79589ff91dd"), looks := true }, kinds := [], alts := [], laidByText := true, laidKinds := [.data], laidTests := true, laidLooks := .later }
def StepLettersCardSaid : Prop := Claim7.holds Tryd.pinned (.plain (OpenSpec.ofChange stepLettersSpec)) stepLettersCard

/-- THE TIED CARD OF 'foretelllaw.StepAfters'. -/
def stepAftersCard : Claim7 := { stood := { row := stepAftersRow, standIns := [], harness := (true, "a45d9a56f63fecad78e8dd52d87f96b69369c6a37304d5ea4d09c79589ff91dd"), looks := true }, kinds := [], alts := [], laidByText := true, laidKinds := [.data], laidTests := true, laidLooks := .later }
def StepAftersCardSaid : Prop := Claim7.holds Tryd.pinned (.plain (OpenSpec.ofChange stepAftersSpec)) stepAftersCard

/-- THE TIED CARD OF 'foretelllaw.StepNexts'. -/
def stepNextsCard : Claim7 := { stood := { row := stepNextsRow, standIns := [], harness := (true, "a45d9a56f63fecad78e8dd52d87f96b69369c6a37304d5ea4d09c79589ff91dd"), looks := true }, kinds := [], alts := [], laidByText := true, laidKinds := [.data], laidTests := true, laidLooks := .later }
def StepNextsCardSaid : Prop := Claim7.holds Tryd.pinned (.plain (OpenSpec.ofChange stepNextsSpec)) stepNextsCard

/-- THE TIED CARD OF 'foretelllaw.StepReaches'. -/
def stepReachesCard : Claim7 := { stood := { row := stepReachesRow, standIns := [], harness := (true, "a45d9a56f63fecad78e8dd52d87f96b69369c6a37304d5ea4d09c79589ff91dd"), looks := true }, kinds := [], alts := [], laidByText := true, laidKinds := [.data], laidTests := true, laidLooks := .later }
def StepReachesCardSaid : Prop := Claim7.holds Tryd.pinned (.plain (OpenSpec.ofChange stepReachesSpec)) stepReachesCard

/-- THE TIED CARD OF 'foretelllaw.VerdictRuns'. -/
def verdictRunsCard : Claim7 := { stood := { row := verdictRunsRow, standIns := [], harness := (true, "a45d9a56f63fecad78e8dd52d87f96b69369c6a37304d5ea4d09c79589ff91dd"), looks := true }, kinds := [], alts := [], laidByText := true, laidKinds := [.data], laidTests := true, laidLooks := .later }
def VerdictRunsCardSaid : Prop := Claim7.holds Tryd.pinned (.plain (OpenSpec.ofChange verdictRunsSpec)) verdictRunsCard

/-- THE SECOND FORM's CARD OF 'foretelllaw.ModelChecks'. -/
def modelChecksUptoCard : Claim7 := { stood := { row := modelChecksUptoRow, standIns := [], harness := (true, "a45d9a56f63fecad78e8dd52d87f96b69369c6a37304d5ea4d09c79589ff91dd"), looks := true }, kinds := [], alts := [], laidByText := true, laidKinds := [.data], laidTests := true, laidLooks := .later }
def ModelChecksUptoCardSaid : Prop := Claim7.holds Tryd.pinned (.plain (OpenSpec.upto modelChecksSpec)) modelChecksUptoCard

/-- THE SECOND FORM's CARD OF 'foretelllaw.ModelCounts'. -/
def modelCountsUptoCard : Claim7 := { stood := { row := modelCountsUptoRow, standIns := [], harness := (true, "a45d9a56f63fecad78e8dd52d87f96b69369c6a37304d5ea4d09c79589ff91dd"), looks := true }, kinds := [], alts := [], laidByText := true, laidKinds := [.data], laidTests := true, laidLooks := .later }
def ModelCountsUptoCardSaid : Prop := Claim7.holds Tryd.pinned (.plain (OpenSpec.upto modelCountsSpec)) modelCountsUptoCard

/-- THE SECOND FORM's CARD OF 'foretelllaw.ModelProps'. -/
def modelPropsUptoCard : Claim7 := { stood := { row := modelPropsUptoRow, standIns := [], harness := (true, "a45d9a56f63fecad78e8dd52d87f96b69369c6a37304d5ea4d09c79589ff91dd"), looks := true }, kinds := [], alts := [], laidByText := true, laidKinds := [.data], laidTests := true, laidLooks := .later }
def ModelPropsUptoCardSaid : Prop := Claim7.holds Tryd.pinned (.plain (OpenSpec.upto modelPropsSpec)) modelPropsUptoCard

/-- THE SECOND FORM's CARD OF 'foretelllaw.ModelCodes'. -/
def modelCodesUptoCard : Claim7 := { stood := { row := modelCodesUptoRow, standIns := [], harness := (true, "a45d9a56f63fecad78e8dd52d87f96b69369c6a37304d5ea4d09c79589ff91dd"), looks := true }, kinds := [], alts := [], laidByText := true, laidKinds := [.data], laidTests := true, laidLooks := .later }
def ModelCodesUptoCardSaid : Prop := Claim7.holds Tryd.pinned (.plain (OpenSpec.upto modelCodesSpec)) modelCodesUptoCard

/-- THE SECOND FORM's CARD OF 'foretelllaw.ModelFirsts'. -/
def modelFirstsUptoCard : Claim7 := { stood := { row := modelFirstsUptoRow, standIns := [], harness := (true, "a45d9a56f63fecad78e8dd52d87f96b69369c6a37304d5ea4d09c79589ff91dd"), looks := true }, kinds := [], alts := [], laidByText := true, laidKinds := [.data], laidTests := true, laidLooks := .later }
def ModelFirstsUptoCardSaid : Prop := Claim7.holds Tryd.pinned (.plain (OpenSpec.upto modelFirstsSpec)) modelFirstsUptoCard

/-- THE SECOND FORM's CARD OF 'foretelllaw.ModelValues'. -/
def modelValuesUptoCard : Claim7 := { stood := { row := modelValuesUptoRow, standIns := [], harness := (true, "a45d9a56f63fecad78e8dd52d87f96b69369c6a37304d5ea4d09c79589ff91dd"), looks := true }, kinds := [], alts := [], laidByText := true, laidKinds := [.data], laidTests := true, laidLooks := .later }
def ModelValuesUptoCardSaid : Prop := Claim7.holds Tryd.pinned (.plain (OpenSpec.upto modelValuesSpec)) modelValuesUptoCard

/-- THE SECOND FORM's CARD OF 'foretelllaw.ProductChecks'. -/
def productChecksUptoCard : Claim7 := { stood := { row := productChecksUptoRow, standIns := [], harness := (true, "a45d9a56f63fecad78e8dd52d87f96b69369c6a37304d5ea4d09c79589ff91dd"), looks := true }, kinds := [], alts := [], laidByText := true, laidKinds := [.data], laidTests := true, laidLooks := .later }
def ProductChecksUptoCardSaid : Prop := Claim7.holds Tryd.pinned (.plain (OpenSpec.upto productChecksSpec)) productChecksUptoCard

/-- THE SECOND FORM's CARD OF 'foretelllaw.StepLetters'. -/
def stepLettersUptoCard : Claim7 := { stood := { row := stepLettersUptoRow, standIns := [], harness := (true, "a45d9a56f63fecad78e8dd52d87f96b69369c6a37304d5ea4d09c79589ff91dd"), looks := true }, kinds := [], alts := [], laidByText := true, laidKinds := [.data], laidTests := true, laidLooks := .later }
def StepLettersUptoCardSaid : Prop := Claim7.holds Tryd.pinned (.plain (OpenSpec.upto stepLettersSpec)) stepLettersUptoCard

/-- THE SECOND FORM's CARD OF 'foretelllaw.StepAfters'. -/
def stepAftersUptoCard : Claim7 := { stood := { row := stepAftersUptoRow, standIns := [], harness := (true, "a45d9a56f63fecad78e8dd52d87f96b69369c6a37304d5ea4d09c79589ff91dd"), looks := true }, kinds := [], alts := [], laidByText := true, laidKinds := [.data], laidTests := true, laidLooks := .later }
def StepAftersUptoCardSaid : Prop := Claim7.holds Tryd.pinned (.plain (OpenSpec.upto stepAftersSpec)) stepAftersUptoCard

/-- THE SECOND FORM's CARD OF 'foretelllaw.StepNexts'. -/
def stepNextsUptoCard : Claim7 := { stood := { row := stepNextsUptoRow, standIns := [], harness := (true, "a45d9a56f63fecad78e8dd52d87f96b69369c6a37304d5ea4d09c79589ff91dd"), looks := true }, kinds := [], alts := [], laidByText := true, laidKinds := [.data], laidTests := true, laidLooks := .later }
def StepNextsUptoCardSaid : Prop := Claim7.holds Tryd.pinned (.plain (OpenSpec.upto stepNextsSpec)) stepNextsUptoCard

/-- THE SECOND FORM's CARD OF 'foretelllaw.StepReaches'. -/
def stepReachesUptoCard : Claim7 := { stood := { row := stepReachesUptoRow, standIns := [], harness := (true, "a45d9a56f63fecad78e8dd52d87f96b69369c6a37304d5ea4d09c79589ff91dd"), looks := true }, kinds := [], alts := [], laidByText := true, laidKinds := [.data], laidTests := true, laidLooks := .later }
def StepReachesUptoCardSaid : Prop := Claim7.holds Tryd.pinned (.plain (OpenSpec.upto stepReachesSpec)) stepReachesUptoCard

/-- THE SECOND FORM's CARD OF 'foretelllaw.VerdictRuns'. -/
def verdictRunsUptoCard : Claim7 := { stood := { row := verdictRunsUptoRow, standIns := [], harness := (true, "a45d9a56f63fecad78e8dd52d87f96b69369c6a37304d5ea4d09c79589ff91dd"), looks := true }, kinds := [], alts := [], laidByText := true, laidKinds := [.data], laidTests := true, laidLooks := .later }
def VerdictRunsUptoCardSaid : Prop := Claim7.holds Tryd.pinned (.plain (OpenSpec.upto verdictRunsSpec)) verdictRunsUptoCard
end Rows
end Go.Proofs.YtkpddelnkjjflaaDoor
