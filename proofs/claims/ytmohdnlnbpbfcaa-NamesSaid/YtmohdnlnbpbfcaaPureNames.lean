/- The error numbers, kinds and limits of package api are the document's: foretelllaw.Names returns true. No condition. -/
import Derived.Test.YtmohdnlnbpbfcaaPNamesx1
namespace Go.Proofs.Ytmohdnlnbpbfcaa.Pure
open Go.RowKit Go.Proofs.Ytmohdnlnbpbfcaa.PNames Go.Proofs.YtmohdnlnbpbfcaaW.PrintWords Go.Proofs.YtmohdnlnbpbfcaaW.PrintLast

theorem Names : foretelllaw_Names.Pure := ⟨100, by decide +kernel⟩

end Go.Proofs.Ytmohdnlnbpbfcaa.Pure
