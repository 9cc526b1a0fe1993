/-
  NARROWER THAN 'FOR EVERY INPUT', by the rows' own cells (each row's printed sentence says how): ModelChecks: laid · ModelCounts: laid · ModelProps: laid · ModelCodes: laid · ModelFirsts: laid · ModelValues: laid · ProductChecks: laid · StepLetters: laid · StepAfters: laid · StepNexts: laid · StepReaches: laid · VerdictRuns: laid.
  DERIVED. THE GIVEN ROWS OF THIS SEAT. 12 by the template 'for every input the law returns true; each argument reads behind the call as it read before'; 0 by the template 'total and deterministic' (their statements: YtkpddelnkjjflaaDoorTotals.lean).
  GIVEN WITH THE SEED: the statements are not yours to turn. If you find one false, say at which input.
  Laid BY PROGRAM, IN A SANDBOX (cutbox-rows.mjs): the forced cells as the released guide's own fill.sh prints them over the translation acd5edce15605242… (all of the seat's roots in one cut). By AI agents, Wed Nov 11 2026. No macro, syntax, notation, axiom, sorry.
-/
import Derived.Test.YtkpddelnkjjflaaDoorChecked
import GoSem.Claim
import GoSem.ClaimJoined
import GoSem.ClaimMapViews
import Derived.JoinedTies
import Derived.KernelRfl
namespace Go.Proofs.YtkpddelnkjjflaaDoor
/- THE CELL 'sum', in the pinned program and in every row, IS THE sha256 OF THE DUMP (.gsa) THAT YtkpddelnkjjflaaDoorProg.lean LOADS. Nothing in Lean hashes anything: it is a label: what it is worth is what the hold of that sum in a sandbox is worth. -/
noncomputable def Tryd.pinned : Pinned := { name := "ytkpddelnkjjflaadoor", sum := "acd5edce156052428f66bc92be3a1e1047176e287d813828f22c7b66a0754f49", checked := Tryd.checked }
namespace Rows
def none {H : Type} : Left H := { results := [], args := [] }

/- WHAT THE LISTED PACKAGE-LEVEL VARIABLES READ AS WHEN THE CALL BEGINS. Each datum BY PROGRAM (the guide's laid-datum.mjs) off the statement by which the dump's own 'gosem.cut.vars' lays the variable. In a bare row this is a premise. The card (YtkpddelnkjjflaaDoorCards.lean) ties it to the program's text. -/
def laid_foretell_polish_parts {H : Type} : DataW H := .agg [.lit (.int .i64 (-1)), .lit (.int .i64 0), .lit (.int .i64 0), .lit (.int .i64 2), .lit (.int .i64 2), .lit (.int .i64 2), .lit (.int .i64 2), .lit (.int .i64 2), .lit (.int .i64 2), .lit (.int .i64 2), .lit (.int .i64 1), .lit (.int .i64 0), .lit (.int .i64 0), .lit (.int .i64 0), .lit (.int .i64 1), .lit (.int .i64 2), .lit (.int .i64 2), .lit (.int .i64 1), .lit (.int .i64 1)]

/-- 'foretelllaw.ModelChecks': WHATEVER THE INPUT: true; the input reads as it did. -/
def modelChecksSpec : ChangeSpec := { name := "modelChecks", fn := fun _ => fun
  | [d] => { results := [.lit (.bool true)], args := [d] }
  | _ => none }
def modelChecksRow : OpenClaim := { program := "ytkpddelnkjjflaadoor", sum := "acd5edce156052428f66bc92be3a1e1047176e287d813828f22c7b66a0754f49", func := "foretell/foretelllaw.ModelChecks", spec := "modelChecks", unfollowed := true, recurses := true, named := ["foretell/polish.parts"], apart := false, laid := [("foretell/polish.parts", laid_foretell_polish_parts)] }
def ModelChecksSaid : Prop := modelChecksRow.holds Tryd.pinned (OpenSpec.ofChange modelChecksSpec)

/-- ITS FALSE NEIGHBOUR: 'it returns false'. Refute it at one input. -/
def modelChecksWrong : ChangeSpec := { name := "modelChecks", fn := fun _ => fun
  | [d] => { results := [.lit (.bool false)], args := [d] }
  | _ => none }
def ModelChecksWrongFalsely : Prop := modelChecksRow.holds Tryd.pinned (OpenSpec.ofChange modelChecksWrong)

/-- 'foretelllaw.ModelCounts': WHATEVER THE INPUT: true; the input reads as it did. -/
def modelCountsSpec : ChangeSpec := { name := "modelCounts", fn := fun _ => fun
  | [d] => { results := [.lit (.bool true)], args := [d] }
  | _ => none }
def modelCountsRow : OpenClaim := { program := "ytkpddelnkjjflaadoor", sum := "acd5edce156052428f66bc92be3a1e1047176e287d813828f22c7b66a0754f49", func := "foretell/foretelllaw.ModelCounts", spec := "modelCounts", unfollowed := true, recurses := true, named := ["foretell/polish.parts"], apart := false, laid := [("foretell/polish.parts", laid_foretell_polish_parts)] }
def ModelCountsSaid : Prop := modelCountsRow.holds Tryd.pinned (OpenSpec.ofChange modelCountsSpec)

/-- ITS FALSE NEIGHBOUR: 'it returns false'. Refute it at one input. -/
def modelCountsWrong : ChangeSpec := { name := "modelCounts", fn := fun _ => fun
  | [d] => { results := [.lit (.bool false)], args := [d] }
  | _ => none }
def ModelCountsWrongFalsely : Prop := modelCountsRow.holds Tryd.pinned (OpenSpec.ofChange modelCountsWrong)

/-- 'foretelllaw.ModelProps': WHATEVER THE INPUT: true; the input reads as it did. -/
def modelPropsSpec : ChangeSpec := { name := "modelProps", fn := fun _ => fun
  | [d1, d2] => { results := [.lit (.bool true)], args := [d1, d2] }
  | _ => none }
def modelPropsRow : OpenClaim := { program := "ytkpddelnkjjflaadoor", sum := "acd5edce156052428f66bc92be3a1e1047176e287d813828f22c7b66a0754f49", func := "foretell/foretelllaw.ModelProps", spec := "modelProps", unfollowed := true, recurses := true, named := ["foretell/polish.parts"], apart := false, laid := [("foretell/polish.parts", laid_foretell_polish_parts)] }
def ModelPropsSaid : Prop := modelPropsRow.holds Tryd.pinned (OpenSpec.ofChange modelPropsSpec)

/-- ITS FALSE NEIGHBOUR: 'it returns false'. Refute it at one input. -/
def modelPropsWrong : ChangeSpec := { name := "modelProps", fn := fun _ => fun
  | [d1, d2] => { results := [.lit (.bool false)], args := [d1, d2] }
  | _ => none }
def ModelPropsWrongFalsely : Prop := modelPropsRow.holds Tryd.pinned (OpenSpec.ofChange modelPropsWrong)

/-- 'foretelllaw.ModelCodes': WHATEVER THE INPUT: true; the input reads as it did. -/
def modelCodesSpec : ChangeSpec := { name := "modelCodes", fn := fun _ => fun
  | [d1, d2] => { results := [.lit (.bool true)], args := [d1, d2] }
  | _ => none }
def modelCodesRow : OpenClaim := { program := "ytkpddelnkjjflaadoor", sum := "acd5edce156052428f66bc92be3a1e1047176e287d813828f22c7b66a0754f49", func := "foretell/foretelllaw.ModelCodes", spec := "modelCodes", unfollowed := true, recurses := true, named := ["foretell/polish.parts"], apart := false, laid := [("foretell/polish.parts", laid_foretell_polish_parts)] }
def ModelCodesSaid : Prop := modelCodesRow.holds Tryd.pinned (OpenSpec.ofChange modelCodesSpec)

/-- ITS FALSE NEIGHBOUR: 'it returns false'. Refute it at one input. -/
def modelCodesWrong : ChangeSpec := { name := "modelCodes", fn := fun _ => fun
  | [d1, d2] => { results := [.lit (.bool false)], args := [d1, d2] }
  | _ => none }
def ModelCodesWrongFalsely : Prop := modelCodesRow.holds Tryd.pinned (OpenSpec.ofChange modelCodesWrong)

/-- 'foretelllaw.ModelFirsts': WHATEVER THE INPUT: true; the input reads as it did. -/
def modelFirstsSpec : ChangeSpec := { name := "modelFirsts", fn := fun _ => fun
  | [d] => { results := [.lit (.bool true)], args := [d] }
  | _ => none }
def modelFirstsRow : OpenClaim := { program := "ytkpddelnkjjflaadoor", sum := "acd5edce156052428f66bc92be3a1e1047176e287d813828f22c7b66a0754f49", func := "foretell/foretelllaw.ModelFirsts", spec := "modelFirsts", unfollowed := true, recurses := true, named := ["foretell/polish.parts"], apart := false, laid := [("foretell/polish.parts", laid_foretell_polish_parts)] }
def ModelFirstsSaid : Prop := modelFirstsRow.holds Tryd.pinned (OpenSpec.ofChange modelFirstsSpec)

/-- ITS FALSE NEIGHBOUR: 'it returns false'. Refute it at one input. -/
def modelFirstsWrong : ChangeSpec := { name := "modelFirsts", fn := fun _ => fun
  | [d] => { results := [.lit (.bool false)], args := [d] }
  | _ => none }
def ModelFirstsWrongFalsely : Prop := modelFirstsRow.holds Tryd.pinned (OpenSpec.ofChange modelFirstsWrong)

/-- 'foretelllaw.ModelValues': WHATEVER THE INPUT: true; the input reads as it did. -/
def modelValuesSpec : ChangeSpec := { name := "modelValues", fn := fun _ => fun
  | [d1, d2] => { results := [.lit (.bool true)], args := [d1, d2] }
  | _ => none }
def modelValuesRow : OpenClaim := { program := "ytkpddelnkjjflaadoor", sum := "acd5edce156052428f66bc92be3a1e1047176e287d813828f22c7b66a0754f49", func := "foretell/foretelllaw.ModelValues", spec := "modelValues", unfollowed := true, recurses := true, named := ["foretell/polish.parts"], apart := false, laid := [("foretell/polish.parts", laid_foretell_polish_parts)] }
def ModelValuesSaid : Prop := modelValuesRow.holds Tryd.pinned (OpenSpec.ofChange modelValuesSpec)

/-- ITS FALSE NEIGHBOUR: 'it returns false'. Refute it at one input. -/
def modelValuesWrong : ChangeSpec := { name := "modelValues", fn := fun _ => fun
  | [d1, d2] => { results := [.lit (.bool false)], args := [d1, d2] }
  | _ => none }
def ModelValuesWrongFalsely : Prop := modelValuesRow.holds Tryd.pinned (OpenSpec.ofChange modelValuesWrong)

/-- 'foretelllaw.ProductChecks': WHATEVER THE INPUT: true; the input reads as it did. -/
def productChecksSpec : ChangeSpec := { name := "productChecks", fn := fun _ => fun
  | [d] => { results := [.lit (.bool true)], args := [d] }
  | _ => none }
def productChecksRow : OpenClaim := { program := "ytkpddelnkjjflaadoor", sum := "acd5edce156052428f66bc92be3a1e1047176e287d813828f22c7b66a0754f49", func := "foretell/foretelllaw.ProductChecks", spec := "productChecks", unfollowed := true, recurses := true, named := ["foretell/polish.parts"], apart := false, laid := [("foretell/polish.parts", laid_foretell_polish_parts)] }
def ProductChecksSaid : Prop := productChecksRow.holds Tryd.pinned (OpenSpec.ofChange productChecksSpec)

/-- ITS FALSE NEIGHBOUR: 'it returns false'. Refute it at one input. -/
def productChecksWrong : ChangeSpec := { name := "productChecks", fn := fun _ => fun
  | [d] => { results := [.lit (.bool false)], args := [d] }
  | _ => none }
def ProductChecksWrongFalsely : Prop := productChecksRow.holds Tryd.pinned (OpenSpec.ofChange productChecksWrong)

/-- 'foretelllaw.StepLetters': WHATEVER THE INPUT: true; the input reads as it did. -/
def stepLettersSpec : ChangeSpec := { name := "stepLetters", fn := fun _ => fun
  | [d1, d2, d3] => { results := [.lit (.bool true)], args := [d1, d2, d3] }
  | _ => none }
def stepLettersRow : OpenClaim := { program := "ytkpddelnkjjflaadoor", sum := "acd5edce156052428f66bc92be3a1e1047176e287d813828f22c7b66a0754f49", func := "foretell/foretelllaw.StepLetters", spec := "stepLetters", unfollowed := true, recurses := true, named := ["foretell/polish.parts"], apart := false, laid := [("foretell/polish.parts", laid_foretell_polish_parts)] }
def StepLettersSaid : Prop := stepLettersRow.holds Tryd.pinned (OpenSpec.ofChange stepLettersSpec)

/-- ITS FALSE NEIGHBOUR: 'it returns false'. Refute it at one input. -/
def stepLettersWrong : ChangeSpec := { name := "stepLetters", fn := fun _ => fun
  | [d1, d2, d3] => { results := [.lit (.bool false)], args := [d1, d2, d3] }
  | _ => none }
def StepLettersWrongFalsely : Prop := stepLettersRow.holds Tryd.pinned (OpenSpec.ofChange stepLettersWrong)

/-- 'foretelllaw.StepAfters': WHATEVER THE INPUT: true; the input reads as it did. -/
def stepAftersSpec : ChangeSpec := { name := "stepAfters", fn := fun _ => fun
  | [d1, d2, d3] => { results := [.lit (.bool true)], args := [d1, d2, d3] }
  | _ => none }
def stepAftersRow : OpenClaim := { program := "ytkpddelnkjjflaadoor", sum := "acd5edce156052428f66bc92be3a1e1047176e287d813828f22c7b66a0754f49", func := "foretell/foretelllaw.StepAfters", spec := "stepAfters", unfollowed := true, recurses := true, named := ["foretell/polish.parts"], apart := false, laid := [("foretell/polish.parts", laid_foretell_polish_parts)] }
def StepAftersSaid : Prop := stepAftersRow.holds Tryd.pinned (OpenSpec.ofChange stepAftersSpec)

/-- ITS FALSE NEIGHBOUR: 'it returns false'. Refute it at one input. -/
def stepAftersWrong : ChangeSpec := { name := "stepAfters", fn := fun _ => fun
  | [d1, d2, d3] => { results := [.lit (.bool false)], args := [d1, d2, d3] }
  | _ => none }
def StepAftersWrongFalsely : Prop := stepAftersRow.holds Tryd.pinned (OpenSpec.ofChange stepAftersWrong)

/-- 'foretelllaw.StepNexts': WHATEVER THE INPUT: true; the input reads as it did. -/
def stepNextsSpec : ChangeSpec := { name := "stepNexts", fn := fun _ => fun
  | [d1, d2] => { results := [.lit (.bool true)], args := [d1, d2] }
  | _ => none }
def stepNextsRow : OpenClaim := { program := "ytkpddelnkjjflaadoor", sum := "acd5edce156052428f66bc92be3a1e1047176e287d813828f22c7b66a0754f49", func := "foretell/foretelllaw.StepNexts", spec := "stepNexts", unfollowed := true, recurses := true, named := ["foretell/polish.parts"], apart := false, laid := [("foretell/polish.parts", laid_foretell_polish_parts)] }
def StepNextsSaid : Prop := stepNextsRow.holds Tryd.pinned (OpenSpec.ofChange stepNextsSpec)

/-- ITS FALSE NEIGHBOUR: 'it returns false'. Refute it at one input. -/
def stepNextsWrong : ChangeSpec := { name := "stepNexts", fn := fun _ => fun
  | [d1, d2] => { results := [.lit (.bool false)], args := [d1, d2] }
  | _ => none }
def StepNextsWrongFalsely : Prop := stepNextsRow.holds Tryd.pinned (OpenSpec.ofChange stepNextsWrong)

/-- 'foretelllaw.StepReaches': WHATEVER THE INPUT: true; the input reads as it did. -/
def stepReachesSpec : ChangeSpec := { name := "stepReaches", fn := fun _ => fun
  | [d] => { results := [.lit (.bool true)], args := [d] }
  | _ => none }
def stepReachesRow : OpenClaim := { program := "ytkpddelnkjjflaadoor", sum := "acd5edce156052428f66bc92be3a1e1047176e287d813828f22c7b66a0754f49", func := "foretell/foretelllaw.StepReaches", spec := "stepReaches", unfollowed := true, recurses := true, named := ["foretell/polish.parts"], apart := false, laid := [("foretell/polish.parts", laid_foretell_polish_parts)] }
def StepReachesSaid : Prop := stepReachesRow.holds Tryd.pinned (OpenSpec.ofChange stepReachesSpec)

/-- ITS FALSE NEIGHBOUR: 'it returns false'. Refute it at one input. -/
def stepReachesWrong : ChangeSpec := { name := "stepReaches", fn := fun _ => fun
  | [d] => { results := [.lit (.bool false)], args := [d] }
  | _ => none }
def StepReachesWrongFalsely : Prop := stepReachesRow.holds Tryd.pinned (OpenSpec.ofChange stepReachesWrong)

/-- 'foretelllaw.VerdictRuns': WHATEVER THE INPUT: true; the input reads as it did. -/
def verdictRunsSpec : ChangeSpec := { name := "verdictRuns", fn := fun _ => fun
  | [d1, d2] => { results := [.lit (.bool true)], args := [d1, d2] }
  | _ => none }
def verdictRunsRow : OpenClaim := { program := "ytkpddelnkjjflaadoor", sum := "acd5edce156052428f66bc92be3a1e1047176e287d813828f22c7b66a0754f49", func := "foretell/foretelllaw.VerdictRuns", spec := "verdictRuns", unfollowed := true, recurses := true, named := ["foretell/polish.parts"], apart := false, laid := [("foretell/polish.parts", laid_foretell_polish_parts)] }
def VerdictRunsSaid : Prop := verdictRunsRow.holds Tryd.pinned (OpenSpec.ofChange verdictRunsSpec)

/-- ITS FALSE NEIGHBOUR: 'it returns false'. Refute it at one input. -/
def verdictRunsWrong : ChangeSpec := { name := "verdictRuns", fn := fun _ => fun
  | [d1, d2] => { results := [.lit (.bool false)], args := [d1, d2] }
  | _ => none }
def VerdictRunsWrongFalsely : Prop := verdictRunsRow.holds Tryd.pinned (OpenSpec.ofChange verdictRunsWrong)

/- THE SECOND FORM. 'bulk': how many values and letters a reading holds, each counted each time it is reached (what is shared counts as often as it is met; a slice's spare places count too). A statement '..UptoSaid' is the law's where the arguments, and the package variables that the reading takes, are together of bulk at most 1048576: NARROWER than '..Said'. Prove '..Said' where nothing that the law and all that it calls make is longer than what came in: it says more and counts as full. Else prove '..UptoSaid'. A law counts once. -/
mutual
def uptoBulk {H : Type} : DataW H → Nat
  | .lit (.string bytes) => bytes.length + 1
  | .lit _ => 1
  | .nil => 1
  | .ptr d => uptoBulk d + 1
  | .slice elems spare => uptoBulkAll elems + uptoBulkAll spare + 1
  | .agg parts => uptoBulkAll parts + 1
  | .iface _ d => uptoBulk d + 1
  | .map entries => uptoBulkEntries entries + 1
  | .held _ => 1
def uptoBulkAll {H : Type} : List (DataW H) → Nat
  | [] => 0
  | d :: r => uptoBulk d + uptoBulkAll r
def uptoBulkEntries {H : Type} : List (Lit × DataW H) → Nat
  | [] => 0
  | x :: r => uptoBulkEntry x + uptoBulkEntries r
def uptoBulkEntry {H : Type} : Lit × DataW H → Nat
  | (.string bytes, d) => bytes.length + uptoBulk d + 1
  | (_, d) => uptoBulk d + 1
 end
def uptoSmall : (H : Type) → List (DataW H) → Bool := fun _ ds => decide (uptoBulkAll ds ≤ 1048576)
def OpenSpec.upto (s : _root_.Go.ChangeSpec) : _root_.Go.OpenSpec := { _root_.Go.OpenSpec.ofChange s with cond := some uptoSmall }

/-- 'foretelllaw.ModelChecks', WHERE WHAT IT READS IS OF BULK AT MOST 1048576: true; the input reads as it did. -/
def modelChecksUptoRow : OpenClaim := { program := "ytkpddelnkjjflaadoor", sum := "acd5edce156052428f66bc92be3a1e1047176e287d813828f22c7b66a0754f49", func := "foretell/foretelllaw.ModelChecks", spec := "modelChecks", unfollowed := true, recurses := true, named := ["foretell/polish.parts"], apart := false, laid := [("foretell/polish.parts", laid_foretell_polish_parts)], narrowed := true }
def ModelChecksUptoSaid : Prop := modelChecksUptoRow.holds Tryd.pinned (OpenSpec.upto modelChecksSpec)

/-- 'foretelllaw.ModelCounts', WHERE WHAT IT READS IS OF BULK AT MOST 1048576: true; the input reads as it did. -/
def modelCountsUptoRow : OpenClaim := { program := "ytkpddelnkjjflaadoor", sum := "acd5edce156052428f66bc92be3a1e1047176e287d813828f22c7b66a0754f49", func := "foretell/foretelllaw.ModelCounts", spec := "modelCounts", unfollowed := true, recurses := true, named := ["foretell/polish.parts"], apart := false, laid := [("foretell/polish.parts", laid_foretell_polish_parts)], narrowed := true }
def ModelCountsUptoSaid : Prop := modelCountsUptoRow.holds Tryd.pinned (OpenSpec.upto modelCountsSpec)

/-- 'foretelllaw.ModelProps', WHERE WHAT IT READS IS OF BULK AT MOST 1048576: true; the input reads as it did. -/
def modelPropsUptoRow : OpenClaim := { program := "ytkpddelnkjjflaadoor", sum := "acd5edce156052428f66bc92be3a1e1047176e287d813828f22c7b66a0754f49", func := "foretell/foretelllaw.ModelProps", spec := "modelProps", unfollowed := true, recurses := true, named := ["foretell/polish.parts"], apart := false, laid := [("foretell/polish.parts", laid_foretell_polish_parts)], narrowed := true }
def ModelPropsUptoSaid : Prop := modelPropsUptoRow.holds Tryd.pinned (OpenSpec.upto modelPropsSpec)

/-- 'foretelllaw.ModelCodes', WHERE WHAT IT READS IS OF BULK AT MOST 1048576: true; the input reads as it did. -/
def modelCodesUptoRow : OpenClaim := { program := "ytkpddelnkjjflaadoor", sum := "acd5edce156052428f66bc92be3a1e1047176e287d813828f22c7b66a0754f49", func := "foretell/foretelllaw.ModelCodes", spec := "modelCodes", unfollowed := true, recurses := true, named := ["foretell/polish.parts"], apart := false, laid := [("foretell/polish.parts", laid_foretell_polish_parts)], narrowed := true }
def ModelCodesUptoSaid : Prop := modelCodesUptoRow.holds Tryd.pinned (OpenSpec.upto modelCodesSpec)

/-- 'foretelllaw.ModelFirsts', WHERE WHAT IT READS IS OF BULK AT MOST 1048576: true; the input reads as it did. -/
def modelFirstsUptoRow : OpenClaim := { program := "ytkpddelnkjjflaadoor", sum := "acd5edce156052428f66bc92be3a1e1047176e287d813828f22c7b66a0754f49", func := "foretell/foretelllaw.ModelFirsts", spec := "modelFirsts", unfollowed := true, recurses := true, named := ["foretell/polish.parts"], apart := false, laid := [("foretell/polish.parts", laid_foretell_polish_parts)], narrowed := true }
def ModelFirstsUptoSaid : Prop := modelFirstsUptoRow.holds Tryd.pinned (OpenSpec.upto modelFirstsSpec)

/-- 'foretelllaw.ModelValues', WHERE WHAT IT READS IS OF BULK AT MOST 1048576: true; the input reads as it did. -/
def modelValuesUptoRow : OpenClaim := { program := "ytkpddelnkjjflaadoor", sum := "acd5edce156052428f66bc92be3a1e1047176e287d813828f22c7b66a0754f49", func := "foretell/foretelllaw.ModelValues", spec := "modelValues", unfollowed := true, recurses := true, named := ["foretell/polish.parts"], apart := false, laid := [("foretell/polish.parts", laid_foretell_polish_parts)], narrowed := true }
def ModelValuesUptoSaid : Prop := modelValuesUptoRow.holds Tryd.pinned (OpenSpec.upto modelValuesSpec)

/-- 'foretelllaw.ProductChecks', WHERE WHAT IT READS IS OF BULK AT MOST 1048576: true; the input reads as it did. -/
def productChecksUptoRow : OpenClaim := { program := "ytkpddelnkjjflaadoor", sum := "acd5edce156052428f66bc92be3a1e1047176e287d813828f22c7b66a0754f49", func := "foretell/foretelllaw.ProductChecks", spec := "productChecks", unfollowed := true, recurses := true, named := ["foretell/polish.parts"], apart := false, laid := [("foretell/polish.parts", laid_foretell_polish_parts)], narrowed := true }
def ProductChecksUptoSaid : Prop := productChecksUptoRow.holds Tryd.pinned (OpenSpec.upto productChecksSpec)

/-- 'foretelllaw.StepLetters', WHERE WHAT IT READS IS OF BULK AT MOST 1048576: true; the input reads as it did. -/
def stepLettersUptoRow : OpenClaim := { program := "ytkpddelnkjjflaadoor", sum := "acd5edce156052428f66bc92be3a1e1047176e287d813828f22c7b66a0754f49", func := "foretell/foretelllaw.StepLetters", spec := "stepLetters", unfollowed := true, recurses := true, named := ["foretell/polish.parts"], apart := false, laid := [("foretell/polish.parts", laid_foretell_polish_parts)], narrowed := true }
def StepLettersUptoSaid : Prop := stepLettersUptoRow.holds Tryd.pinned (OpenSpec.upto stepLettersSpec)

/-- 'foretelllaw.StepAfters', WHERE WHAT IT READS IS OF BULK AT MOST 1048576: true; the input reads as it did. -/
def stepAftersUptoRow : OpenClaim := { program := "ytkpddelnkjjflaadoor", sum := "acd5edce156052428f66bc92be3a1e1047176e287d813828f22c7b66a0754f49", func := "foretell/foretelllaw.StepAfters", spec := "stepAfters", unfollowed := true, recurses := true, named := ["foretell/polish.parts"], apart := false, laid := [("foretell/polish.parts", laid_foretell_polish_parts)], narrowed := true }
def StepAftersUptoSaid : Prop := stepAftersUptoRow.holds Tryd.pinned (OpenSpec.upto stepAftersSpec)

/-- 'foretelllaw.StepNexts', WHERE WHAT IT READS IS OF BULK AT MOST 1048576: true; the input reads as it did. -/
def stepNextsUptoRow : OpenClaim := { program := "ytkpddelnkjjflaadoor", sum := "acd5edce156052428f66bc92be3a1e1047176e287d813828f22c7b66a0754f49", func := "foretell/foretelllaw.StepNexts", spec := "stepNexts", unfollowed := true, recurses := true, named := ["foretell/polish.parts"], apart := false, laid := [("foretell/polish.parts", laid_foretell_polish_parts)], narrowed := true }
def StepNextsUptoSaid : Prop := stepNextsUptoRow.holds Tryd.pinned (OpenSpec.upto stepNextsSpec)

/-- 'foretelllaw.StepReaches', WHERE WHAT IT READS IS OF BULK AT MOST 1048576: true; the input reads as it did. -/
def stepReachesUptoRow : OpenClaim := { program := "ytkpddelnkjjflaadoor", sum := "acd5edce156052428f66bc92be3a1e1047176e287d813828f22c7b66a0754f49", func := "foretell/foretelllaw.StepReaches", spec := "stepReaches", unfollowed := true, recurses := true, named := ["foretell/polish.parts"], apart := false, laid := [("foretell/polish.parts", laid_foretell_polish_parts)], narrowed := true }
def StepReachesUptoSaid : Prop := stepReachesUptoRow.holds Tryd.pinned (OpenSpec.upto stepReachesSpec)

/-- 'foretelllaw.VerdictRuns', WHERE WHAT IT READS IS OF BULK AT MOST 1048576: true; the input reads as it did. -/
def verdictRunsUptoRow : OpenClaim := { program := "ytkpddelnkjjflaadoor", sum := "acd5edce156052428f66bc92be3a1e1047176e287d813828f22c7b66a0754f49", func := "foretell/foretelllaw.VerdictRuns", spec := "verdictRuns", unfollowed := true, recurses := true, named := ["foretell/polish.parts"], apart := false, laid := [("foretell/polish.parts", laid_foretell_polish_parts)], narrowed := true }
def VerdictRunsUptoSaid : Prop := verdictRunsUptoRow.holds Tryd.pinned (OpenSpec.upto verdictRunsSpec)

end Rows
end Go.Proofs.YtkpddelnkjjflaaDoor
