/-
  DERIVED. GIVEN WITH THE SEED: THE CARDS: each row of YtgdijfhdpgdanaaGreatDoorRows.lean that lists a variable, with what it lists TIED to the program's text (the seventh form; the later family's looks); each row that meets fmt, with fmt's text TOLD by the authors' own Lean function (tested against real Go, not proved from fmt's source: count such statements apart). THE CARD IS WHAT COUNTS. Prove the row's statement (the work); the ties are given (YtgdijfhdpgdanaaGreatDoorTie.lean); close each card by the builder's one call (the guide's Derived/Test/ToyasCard.lean, 'card_holds'). Laid BY PROGRAM, IN A SANDBOX (cutbox-door.mjs). By AI agents, Wed Nov 11 2026. No macro, syntax, notation, axiom, sorry.
-/
import Derived.Test.YtgdijfhdpgdanaaGreatDoorRows
import GoSem.ClaimSeven
namespace Go.Proofs.YtgdijfhdpgdanaaGreatDoor
namespace Rows

/-- THE TIED CARD OF 'foretelllaw.ProductBehinds'. -/
def productBehindsCard : Claim7 := { stood := { row := productBehindsRow, standIns := [], harness := (true, "817fcae6b70999a9c58dd5ff7c5e87c9abc1ae89c5695812d52819fca6855baa"), looks := true }, kinds := [], alts := [], laidByText := true, laidKinds := [.data], laidTests := true, laidLooks := .later }
def ProductBehindsCardSaid : Prop := Claim7.holds Tryz.pinned (.plain (OpenSpec.ofChange productBehindsSpec)) productBehindsCard

/-- THE TIED CARD OF 'foretelllaw.VerdictKeeps'. -/
def verdictKeepsCard : Claim7 := { stood := { row := verdictKeepsRow, standIns := [], harness := (true, "817fcae6b70999a9c58dd5ff7c5e87c9abc1ae89c5695812d52819fca6855baa"), looks := true }, kinds := [], alts := [], laidByText := true, laidKinds := [.data], laidTests := true, laidLooks := .later }
def VerdictKeepsCardSaid : Prop := Claim7.holds Tryz.pinned (.plain (OpenSpec.ofChange verdictKeepsSpec)) verdictKeepsCard

/-- THE TIED CARD OF 'foretelllaw.ProductExplores'. -/
def productExploresCard : Claim7 := { stood := { row := productExploresRow, standIns := [], harness := (true, "817fcae6b70999a9c58dd5ff7c5e87c9abc1ae89c5695812d52819fca6855baa"), looks := true }, kinds := [], alts := [], laidByText := true, laidKinds := [.data], laidTests := true, laidLooks := .later }
def ProductExploresCardSaid : Prop := Claim7.holds Tryz.pinned (.plain (OpenSpec.ofChange productExploresSpec)) productExploresCard

/-- THE SECOND FORM's CARD OF 'foretelllaw.ProductBehinds'. -/
def productBehindsUptoCard : Claim7 := { stood := { row := productBehindsUptoRow, standIns := [], harness := (true, "817fcae6b70999a9c58dd5ff7c5e87c9abc1ae89c5695812d52819fca6855baa"), looks := true }, kinds := [], alts := [], laidByText := true, laidKinds := [.data], laidTests := true, laidLooks := .later }
def ProductBehindsUptoCardSaid : Prop := Claim7.holds Tryz.pinned (.plain (OpenSpec.upto productBehindsSpec)) productBehindsUptoCard

/-- THE SECOND FORM's CARD OF 'foretelllaw.VerdictKeeps'. -/
def verdictKeepsUptoCard : Claim7 := { stood := { row := verdictKeepsUptoRow, standIns := [], harness := (true, "817fcae6b70999a9c58dd5ff7c5e87c9abc1ae89c5695812d52819fca6855baa"), looks := true }, kinds := [], alts := [], laidByText := true, laidKinds := [.data], laidTests := true, laidLooks := .later }
def VerdictKeepsUptoCardSaid : Prop := Claim7.holds Tryz.pinned (.plain (OpenSpec.upto verdictKeepsSpec)) verdictKeepsUptoCard

/-- THE SECOND FORM's CARD OF 'foretelllaw.ProductExplores'. -/
def productExploresUptoCard : Claim7 := { stood := { row := productExploresUptoRow, standIns := [], harness := (true, "817fcae6b70999a9c58dd5ff7c5e87c9abc1ae89c5695812d52819fca6855baa"), looks := true }, kinds := [], alts := [], laidByText := true, laidKinds := [.data], laidTests := true, laidLooks := .later }
def ProductExploresUptoCardSaid : Prop := Claim7.holds Tryz.pinned (.plain (OpenSpec.upto productExploresSpec)) productExploresUptoCard
end Rows
end Go.Proofs.YtgdijfhdpgdanaaGreatDoor
