/-
  DERIVED. GIVEN WITH THE SEED: THE CARDS: each row of YthffpjkkmkjplaaDoorRows.lean that lists a variable, with what it lists TIED to the program's text (the seventh form; the later family's looks); each row that meets fmt, with fmt's text TOLD by the authors' own Lean function (tested against real Go, not proved from fmt's source: count such statements apart). THE CARD IS WHAT COUNTS. Prove the row's statement (the work); the ties are given (YthffpjkkmkjplaaDoorTie.lean); close each card by the builder's one call (the guide's Derived/Test/ToyasCard.lean, 'card_holds'). Laid BY PROGRAM, IN A SANDBOX (cutbox-door.mjs). By AI agents, Wed Nov 11 2026. No macro, syntax, notation, axiom, sorry.
-/
import Derived.Test.YthffpjkkmkjplaaDoorRows
import GoSem.ClaimSeven
namespace Go.Proofs.YthffpjkkmkjplaaDoor
namespace Rows

/-- THE TIED CARD OF 'foretelllaw.WordMoments'. -/
def wordMomentsCard : Claim7 := { stood := { row := wordMomentsRow, standIns := [], harness := (true, "b1265377c9f12aaca1e8d4d89a7595676ed23a6aafe61740af5de3720cca9cc0"), looks := true }, kinds := [], alts := [], laidByText := true, laidKinds := [.data], laidTests := true, laidLooks := .later }
def WordMomentsCardSaid : Prop := Claim7.holds Tryd.pinned (.plain (OpenSpec.ofChange wordMomentsSpec)) wordMomentsCard

/-- THE TIED CARD OF 'foretelllaw.WordHolds'. -/
def wordHoldsCard : Claim7 := { stood := { row := wordHoldsRow, standIns := [], harness := (true, "b1265377c9f12aaca1e8d4d89a7595676ed23a6aafe61740af5de3720cca9cc0"), looks := true }, kinds := [], alts := [], laidByText := true, laidKinds := [.data], laidTests := true, laidLooks := .later }
def WordHoldsCardSaid : Prop := Claim7.holds Tryd.pinned (.plain (OpenSpec.ofChange wordHoldsSpec)) wordHoldsCard

/-- THE TIED CARD OF 'foretelllaw.WordClaims'. -/
def wordClaimsCard : Claim7 := { stood := { row := wordClaimsRow, standIns := [], harness := (true, "b1265377c9f12aaca1e8d4d89a7595676ed23a6aafe61740af5de3720cca9cc0"), looks := true }, kinds := [], alts := [], laidByText := true, laidKinds := [.data], laidTests := true, laidLooks := .later }
def WordClaimsCardSaid : Prop := Claim7.holds Tryd.pinned (.plain (OpenSpec.ofChange wordClaimsSpec)) wordClaimsCard

/-- THE TIED CARD OF 'foretelllaw.ProductBegins'. -/
def productBeginsCard : Claim7 := { stood := { row := productBeginsRow, standIns := [], harness := (true, "b1265377c9f12aaca1e8d4d89a7595676ed23a6aafe61740af5de3720cca9cc0"), looks := true }, kinds := [], alts := [], laidByText := true, laidKinds := [.data], laidTests := true, laidLooks := .later }
def ProductBeginsCardSaid : Prop := Claim7.holds Tryd.pinned (.plain (OpenSpec.ofChange productBeginsSpec)) productBeginsCard

/-- THE SECOND FORM's CARD OF 'foretelllaw.WordMoments'. -/
def wordMomentsUptoCard : Claim7 := { stood := { row := wordMomentsUptoRow, standIns := [], harness := (true, "b1265377c9f12aaca1e8d4d89a7595676ed23a6aafe61740af5de3720cca9cc0"), looks := true }, kinds := [], alts := [], laidByText := true, laidKinds := [.data], laidTests := true, laidLooks := .later }
def WordMomentsUptoCardSaid : Prop := Claim7.holds Tryd.pinned (.plain (OpenSpec.upto wordMomentsSpec)) wordMomentsUptoCard

/-- THE SECOND FORM's CARD OF 'foretelllaw.WordHolds'. -/
def wordHoldsUptoCard : Claim7 := { stood := { row := wordHoldsUptoRow, standIns := [], harness := (true, "b1265377c9f12aaca1e8d4d89a7595676ed23a6aafe61740af5de3720cca9cc0"), looks := true }, kinds := [], alts := [], laidByText := true, laidKinds := [.data], laidTests := true, laidLooks := .later }
def WordHoldsUptoCardSaid : Prop := Claim7.holds Tryd.pinned (.plain (OpenSpec.upto wordHoldsSpec)) wordHoldsUptoCard

/-- THE SECOND FORM's CARD OF 'foretelllaw.WordClaims'. -/
def wordClaimsUptoCard : Claim7 := { stood := { row := wordClaimsUptoRow, standIns := [], harness := (true, "b1265377c9f12aaca1e8d4d89a7595676ed23a6aafe61740af5de3720cca9cc0"), looks := true }, kinds := [], alts := [], laidByText := true, laidKinds := [.data], laidTests := true, laidLooks := .later }
def WordClaimsUptoCardSaid : Prop := Claim7.holds Tryd.pinned (.plain (OpenSpec.upto wordClaimsSpec)) wordClaimsUptoCard

/-- THE SECOND FORM's CARD OF 'foretelllaw.ProductBegins'. -/
def productBeginsUptoCard : Claim7 := { stood := { row := productBeginsUptoRow, standIns := [], harness := (true, "b1265377c9f12aaca1e8d4d89a7595676ed23a6aafe61740af5de3720cca9cc0"), looks := true }, kinds := [], alts := [], laidByText := true, laidKinds := [.data], laidTests := true, laidLooks := .later }
def ProductBeginsUptoCardSaid : Prop := Claim7.holds Tryd.pinned (.plain (OpenSpec.upto productBeginsSpec)) productBeginsUptoCard
end Rows
end Go.Proofs.YthffpjkkmkjplaaDoor
