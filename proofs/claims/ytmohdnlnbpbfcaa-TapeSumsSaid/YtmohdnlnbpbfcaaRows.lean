/-
  No cell of these rows narrows 'for every input' (looked for: loops, veiled, ifaces, maps, wideKeys, modest, calm, conditions, laid).
  DERIVED. THE GIVEN ROWS OF THIS SEAT. 9 by the template 'for every input the law returns true; each argument reads behind the call as it read before'; 0 by the template 'total and deterministic' (their statements: YtmohdnlnbpbfcaaTotals.lean).
  GIVEN WITH THE SEED: the statements are not yours to turn. If you find one false, say at which input.
  Laid BY PROGRAM, IN A SANDBOX (cutbox-rows.mjs): the forced cells as the released guide's own fill.sh prints them over the translation 7dc3f708edd05b45… (all of the seat's roots in one cut). By AI agents, Wed Nov 11 2026. No macro, syntax, notation, axiom, sorry.
-/
import Derived.Test.YtmohdnlnbpbfcaaChecked
import GoSem.Claim
import GoSem.ClaimJoined
import GoSem.ClaimMapViews
import Derived.JoinedTies
import Derived.KernelRfl
namespace Go.Proofs.Ytmohdnlnbpbfcaa
/- THE CELL 'sum', in the pinned program and in every row, IS THE sha256 OF THE DUMP (.gsa) THAT YtmohdnlnbpbfcaaProg.lean LOADS. Nothing in Lean hashes anything: it is a label: what it is worth is what the hold of that sum in a sandbox is worth. -/
noncomputable def Try.pinned : Pinned := { name := "ytmohdnlnbpbfcaa", sum := "7dc3f708edd05b451d3b26081dc7fafdba84865725f5ab0221c630c858928d02", checked := Try.checked }
namespace Rows
def none {H : Type} : Left H := { results := [], args := [] }

/-- 'foretelllaw.Names': WHATEVER THE INPUT: true; the input reads as it did. -/
def namesSpec : ChangeSpec := { name := "names", fn := fun _ => fun
  | [] => { results := [.lit (.bool true)], args := [] }
  | _ => none }
def namesRow : OpenClaim := { program := "ytmohdnlnbpbfcaa", sum := "7dc3f708edd05b451d3b26081dc7fafdba84865725f5ab0221c630c858928d02", func := "foretell/foretelllaw.Names", spec := "names", apart := false }
def NamesSaid : Prop := namesRow.holds Try.pinned (OpenSpec.ofChange namesSpec)

/-- ITS FALSE NEIGHBOUR: 'it returns false'. Refute it at one input. -/
def namesWrong : ChangeSpec := { name := "names", fn := fun _ => fun
  | [] => { results := [.lit (.bool false)], args := [] }
  | _ => none }
def NamesWrongFalsely : Prop := namesRow.holds Try.pinned (OpenSpec.ofChange namesWrong)

/-- 'foretelllaw.TapeSums': WHATEVER THE INPUT: true; the input reads as it did. -/
def tapeSumsSpec : ChangeSpec := { name := "tapeSums", fn := fun _ => fun
  | [d] => { results := [.lit (.bool true)], args := [d] }
  | _ => none }
def tapeSumsRow : OpenClaim := { program := "ytmohdnlnbpbfcaa", sum := "7dc3f708edd05b451d3b26081dc7fafdba84865725f5ab0221c630c858928d02", func := "foretell/foretelllaw.TapeSums", spec := "tapeSums", apart := false }
def TapeSumsSaid : Prop := tapeSumsRow.holds Try.pinned (OpenSpec.ofChange tapeSumsSpec)

/-- ITS FALSE NEIGHBOUR: 'it returns false'. Refute it at one input. -/
def tapeSumsWrong : ChangeSpec := { name := "tapeSums", fn := fun _ => fun
  | [d] => { results := [.lit (.bool false)], args := [d] }
  | _ => none }
def TapeSumsWrongFalsely : Prop := tapeSumsRow.holds Try.pinned (OpenSpec.ofChange tapeSumsWrong)

/-- 'foretelllaw.SearchChecks': WHATEVER THE INPUT: true; the input reads as it did. -/
def searchChecksSpec : ChangeSpec := { name := "searchChecks", fn := fun _ => fun
  | [d] => { results := [.lit (.bool true)], args := [d] }
  | _ => none }
def searchChecksRow : OpenClaim := { program := "ytmohdnlnbpbfcaa", sum := "7dc3f708edd05b451d3b26081dc7fafdba84865725f5ab0221c630c858928d02", func := "foretell/foretelllaw.SearchChecks", spec := "searchChecks", apart := false }
def SearchChecksSaid : Prop := searchChecksRow.holds Try.pinned (OpenSpec.ofChange searchChecksSpec)

/-- ITS FALSE NEIGHBOUR: 'it returns false'. Refute it at one input. -/
def searchChecksWrong : ChangeSpec := { name := "searchChecks", fn := fun _ => fun
  | [d] => { results := [.lit (.bool false)], args := [d] }
  | _ => none }
def SearchChecksWrongFalsely : Prop := searchChecksRow.holds Try.pinned (OpenSpec.ofChange searchChecksWrong)

/-- 'foretelllaw.SccChecks': WHATEVER THE INPUT: true; the input reads as it did. -/
def sccChecksSpec : ChangeSpec := { name := "sccChecks", fn := fun _ => fun
  | [d] => { results := [.lit (.bool true)], args := [d] }
  | _ => none }
def sccChecksRow : OpenClaim := { program := "ytmohdnlnbpbfcaa", sum := "7dc3f708edd05b451d3b26081dc7fafdba84865725f5ab0221c630c858928d02", func := "foretell/foretelllaw.SccChecks", spec := "sccChecks", apart := false }
def SccChecksSaid : Prop := sccChecksRow.holds Try.pinned (OpenSpec.ofChange sccChecksSpec)

/-- ITS FALSE NEIGHBOUR: 'it returns false'. Refute it at one input. -/
def sccChecksWrong : ChangeSpec := { name := "sccChecks", fn := fun _ => fun
  | [d] => { results := [.lit (.bool false)], args := [d] }
  | _ => none }
def SccChecksWrongFalsely : Prop := sccChecksRow.holds Try.pinned (OpenSpec.ofChange sccChecksWrong)

/-- 'foretelllaw.TapeSyncs': WHATEVER THE INPUT: true; the input reads as it did. -/
def tapeSyncsSpec : ChangeSpec := { name := "tapeSyncs", fn := fun _ => fun
  | [d] => { results := [.lit (.bool true)], args := [d] }
  | _ => none }
def tapeSyncsRow : OpenClaim := { program := "ytmohdnlnbpbfcaa", sum := "7dc3f708edd05b451d3b26081dc7fafdba84865725f5ab0221c630c858928d02", func := "foretell/foretelllaw.TapeSyncs", spec := "tapeSyncs", apart := false }
def TapeSyncsSaid : Prop := tapeSyncsRow.holds Try.pinned (OpenSpec.ofChange tapeSyncsSpec)

/-- ITS FALSE NEIGHBOUR: 'it returns false'. Refute it at one input. -/
def tapeSyncsWrong : ChangeSpec := { name := "tapeSyncs", fn := fun _ => fun
  | [d] => { results := [.lit (.bool false)], args := [d] }
  | _ => none }
def TapeSyncsWrongFalsely : Prop := tapeSyncsRow.holds Try.pinned (OpenSpec.ofChange tapeSyncsWrong)

/-- 'foretelllaw.TapeCrashes': WHATEVER THE INPUT: true; the input reads as it did. -/
def tapeCrashesSpec : ChangeSpec := { name := "tapeCrashes", fn := fun _ => fun
  | [d1, d2] => { results := [.lit (.bool true)], args := [d1, d2] }
  | _ => none }
def tapeCrashesRow : OpenClaim := { program := "ytmohdnlnbpbfcaa", sum := "7dc3f708edd05b451d3b26081dc7fafdba84865725f5ab0221c630c858928d02", func := "foretell/foretelllaw.TapeCrashes", spec := "tapeCrashes", apart := false }
def TapeCrashesSaid : Prop := tapeCrashesRow.holds Try.pinned (OpenSpec.ofChange tapeCrashesSpec)

/-- ITS FALSE NEIGHBOUR: 'it returns false'. Refute it at one input. -/
def tapeCrashesWrong : ChangeSpec := { name := "tapeCrashes", fn := fun _ => fun
  | [d1, d2] => { results := [.lit (.bool false)], args := [d1, d2] }
  | _ => none }
def TapeCrashesWrongFalsely : Prop := tapeCrashesRow.holds Try.pinned (OpenSpec.ofChange tapeCrashesWrong)

/-- 'foretelllaw.WordChecks': WHATEVER THE INPUT: true; the input reads as it did. -/
def wordChecksSpec : ChangeSpec := { name := "wordChecks", fn := fun _ => fun
  | [d1, d2] => { results := [.lit (.bool true)], args := [d1, d2] }
  | _ => none }
def wordChecksRow : OpenClaim := { program := "ytmohdnlnbpbfcaa", sum := "7dc3f708edd05b451d3b26081dc7fafdba84865725f5ab0221c630c858928d02", func := "foretell/foretelllaw.WordChecks", spec := "wordChecks", apart := false }
def WordChecksSaid : Prop := wordChecksRow.holds Try.pinned (OpenSpec.ofChange wordChecksSpec)

/-- ITS FALSE NEIGHBOUR: 'it returns false'. Refute it at one input. -/
def wordChecksWrong : ChangeSpec := { name := "wordChecks", fn := fun _ => fun
  | [d1, d2] => { results := [.lit (.bool false)], args := [d1, d2] }
  | _ => none }
def WordChecksWrongFalsely : Prop := wordChecksRow.holds Try.pinned (OpenSpec.ofChange wordChecksWrong)

/-- 'foretelllaw.SccReacheds': WHATEVER THE INPUT: true; the input reads as it did. -/
def sccReachedsSpec : ChangeSpec := { name := "sccReacheds", fn := fun _ => fun
  | [d] => { results := [.lit (.bool true)], args := [d] }
  | _ => none }
def sccReachedsRow : OpenClaim := { program := "ytmohdnlnbpbfcaa", sum := "7dc3f708edd05b451d3b26081dc7fafdba84865725f5ab0221c630c858928d02", func := "foretell/foretelllaw.SccReacheds", spec := "sccReacheds", unfollowed := true, recurses := true, apart := false }
def SccReachedsSaid : Prop := sccReachedsRow.holds Try.pinned (OpenSpec.ofChange sccReachedsSpec)

/-- ITS FALSE NEIGHBOUR: 'it returns false'. Refute it at one input. -/
def sccReachedsWrong : ChangeSpec := { name := "sccReacheds", fn := fun _ => fun
  | [d] => { results := [.lit (.bool false)], args := [d] }
  | _ => none }
def SccReachedsWrongFalsely : Prop := sccReachedsRow.holds Try.pinned (OpenSpec.ofChange sccReachedsWrong)

/-- 'foretelllaw.TapeWrites': WHATEVER THE INPUT: true; the input reads as it did. -/
def tapeWritesSpec : ChangeSpec := { name := "tapeWrites", fn := fun _ => fun
  | [d1, d2] => { results := [.lit (.bool true)], args := [d1, d2] }
  | _ => none }
def tapeWritesRow : OpenClaim := { program := "ytmohdnlnbpbfcaa", sum := "7dc3f708edd05b451d3b26081dc7fafdba84865725f5ab0221c630c858928d02", func := "foretell/foretelllaw.TapeWrites", spec := "tapeWrites", apart := false }
def TapeWritesSaid : Prop := tapeWritesRow.holds Try.pinned (OpenSpec.ofChange tapeWritesSpec)

/-- ITS FALSE NEIGHBOUR: 'it returns false'. Refute it at one input. -/
def tapeWritesWrong : ChangeSpec := { name := "tapeWrites", fn := fun _ => fun
  | [d1, d2] => { results := [.lit (.bool false)], args := [d1, d2] }
  | _ => none }
def TapeWritesWrongFalsely : Prop := tapeWritesRow.holds Try.pinned (OpenSpec.ofChange tapeWritesWrong)

/- THE SECOND FORM. 'bulk': how many values and letters a reading holds, each counted each time it is reached (what is shared counts as often as it is met; a slice's spare places count too). A statement '..UptoSaid' is the law's where the arguments, and the package variables that the reading takes, are together of bulk at most 1048576: NARROWER than '..Said'. Prove '..Said' where nothing that the law and all that it calls make is longer than what came in: it says more and counts as full. Else prove '..UptoSaid'. A law counts once. -/
mutual
def uptoBulk {H : Type} : DataW H → Nat
  | .lit (.string bytes) => bytes.length + 1
  | .lit _ => 1
  | .nil => 1
  | .ptr d => uptoBulk d + 1
  | .slice elems spare => uptoBulkAll elems + uptoBulkAll spare + 1
  | .agg parts => uptoBulkAll parts + 1
  | .iface _ d => uptoBulk d + 1
  | .map entries => uptoBulkEntries entries + 1
  | .held _ => 1
def uptoBulkAll {H : Type} : List (DataW H) → Nat
  | [] => 0
  | d :: r => uptoBulk d + uptoBulkAll r
def uptoBulkEntries {H : Type} : List (Lit × DataW H) → Nat
  | [] => 0
  | x :: r => uptoBulkEntry x + uptoBulkEntries r
def uptoBulkEntry {H : Type} : Lit × DataW H → Nat
  | (.string bytes, d) => bytes.length + uptoBulk d + 1
  | (_, d) => uptoBulk d + 1
 end
def uptoSmall : (H : Type) → List (DataW H) → Bool := fun _ ds => decide (uptoBulkAll ds ≤ 1048576)
def OpenSpec.upto (s : _root_.Go.ChangeSpec) : _root_.Go.OpenSpec := { _root_.Go.OpenSpec.ofChange s with cond := some uptoSmall }

/-- 'foretelllaw.Names', WHERE WHAT IT READS IS OF BULK AT MOST 1048576: true; the input reads as it did. -/
def namesUptoRow : OpenClaim := { program := "ytmohdnlnbpbfcaa", sum := "7dc3f708edd05b451d3b26081dc7fafdba84865725f5ab0221c630c858928d02", func := "foretell/foretelllaw.Names", spec := "names", apart := false, narrowed := true }
def NamesUptoSaid : Prop := namesUptoRow.holds Try.pinned (OpenSpec.upto namesSpec)

/-- 'foretelllaw.TapeSums', WHERE WHAT IT READS IS OF BULK AT MOST 1048576: true; the input reads as it did. -/
def tapeSumsUptoRow : OpenClaim := { program := "ytmohdnlnbpbfcaa", sum := "7dc3f708edd05b451d3b26081dc7fafdba84865725f5ab0221c630c858928d02", func := "foretell/foretelllaw.TapeSums", spec := "tapeSums", apart := false, narrowed := true }
def TapeSumsUptoSaid : Prop := tapeSumsUptoRow.holds Try.pinned (OpenSpec.upto tapeSumsSpec)

/-- 'foretelllaw.SearchChecks', WHERE WHAT IT READS IS OF BULK AT MOST 1048576: true; the input reads as it did. -/
def searchChecksUptoRow : OpenClaim := { program := "ytmohdnlnbpbfcaa", sum := "7dc3f708edd05b451d3b26081dc7fafdba84865725f5ab0221c630c858928d02", func := "foretell/foretelllaw.SearchChecks", spec := "searchChecks", apart := false, narrowed := true }
def SearchChecksUptoSaid : Prop := searchChecksUptoRow.holds Try.pinned (OpenSpec.upto searchChecksSpec)

/-- 'foretelllaw.SccChecks', WHERE WHAT IT READS IS OF BULK AT MOST 1048576: true; the input reads as it did. -/
def sccChecksUptoRow : OpenClaim := { program := "ytmohdnlnbpbfcaa", sum := "7dc3f708edd05b451d3b26081dc7fafdba84865725f5ab0221c630c858928d02", func := "foretell/foretelllaw.SccChecks", spec := "sccChecks", apart := false, narrowed := true }
def SccChecksUptoSaid : Prop := sccChecksUptoRow.holds Try.pinned (OpenSpec.upto sccChecksSpec)

/-- 'foretelllaw.TapeSyncs', WHERE WHAT IT READS IS OF BULK AT MOST 1048576: true; the input reads as it did. -/
def tapeSyncsUptoRow : OpenClaim := { program := "ytmohdnlnbpbfcaa", sum := "7dc3f708edd05b451d3b26081dc7fafdba84865725f5ab0221c630c858928d02", func := "foretell/foretelllaw.TapeSyncs", spec := "tapeSyncs", apart := false, narrowed := true }
def TapeSyncsUptoSaid : Prop := tapeSyncsUptoRow.holds Try.pinned (OpenSpec.upto tapeSyncsSpec)

/-- 'foretelllaw.TapeCrashes', WHERE WHAT IT READS IS OF BULK AT MOST 1048576: true; the input reads as it did. -/
def tapeCrashesUptoRow : OpenClaim := { program := "ytmohdnlnbpbfcaa", sum := "7dc3f708edd05b451d3b26081dc7fafdba84865725f5ab0221c630c858928d02", func := "foretell/foretelllaw.TapeCrashes", spec := "tapeCrashes", apart := false, narrowed := true }
def TapeCrashesUptoSaid : Prop := tapeCrashesUptoRow.holds Try.pinned (OpenSpec.upto tapeCrashesSpec)

/-- 'foretelllaw.WordChecks', WHERE WHAT IT READS IS OF BULK AT MOST 1048576: true; the input reads as it did. -/
def wordChecksUptoRow : OpenClaim := { program := "ytmohdnlnbpbfcaa", sum := "7dc3f708edd05b451d3b26081dc7fafdba84865725f5ab0221c630c858928d02", func := "foretell/foretelllaw.WordChecks", spec := "wordChecks", apart := false, narrowed := true }
def WordChecksUptoSaid : Prop := wordChecksUptoRow.holds Try.pinned (OpenSpec.upto wordChecksSpec)

/-- 'foretelllaw.SccReacheds', WHERE WHAT IT READS IS OF BULK AT MOST 1048576: true; the input reads as it did. -/
def sccReachedsUptoRow : OpenClaim := { program := "ytmohdnlnbpbfcaa", sum := "7dc3f708edd05b451d3b26081dc7fafdba84865725f5ab0221c630c858928d02", func := "foretell/foretelllaw.SccReacheds", spec := "sccReacheds", unfollowed := true, recurses := true, apart := false, narrowed := true }
def SccReachedsUptoSaid : Prop := sccReachedsUptoRow.holds Try.pinned (OpenSpec.upto sccReachedsSpec)

/-- 'foretelllaw.TapeWrites', WHERE WHAT IT READS IS OF BULK AT MOST 1048576: true; the input reads as it did. -/
def tapeWritesUptoRow : OpenClaim := { program := "ytmohdnlnbpbfcaa", sum := "7dc3f708edd05b451d3b26081dc7fafdba84865725f5ab0221c630c858928d02", func := "foretell/foretelllaw.TapeWrites", spec := "tapeWrites", apart := false, narrowed := true }
def TapeWritesUptoSaid : Prop := tapeWritesUptoRow.holds Try.pinned (OpenSpec.upto tapeWritesSpec)

end Rows
end Go.Proofs.Ytmohdnlnbpbfcaa
