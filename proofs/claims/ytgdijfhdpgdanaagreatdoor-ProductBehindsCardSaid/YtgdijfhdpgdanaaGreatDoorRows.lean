/-
  NARROWER THAN 'FOR EVERY INPUT', by the rows' own cells (each row's printed sentence says how): ProductBehinds: laid · VerdictKeeps: laid · ProductExplores: laid.
  DERIVED. THE GIVEN ROWS OF THIS SEAT. 3 by the template 'for every input the law returns true; each argument reads behind the call as it read before'; 0 by the template 'total and deterministic' (their statements: YtgdijfhdpgdanaaGreatDoorTotals.lean).
  GIVEN WITH THE SEED: the statements are not yours to turn. If you find one false, say at which input.
  Laid BY PROGRAM, IN A SANDBOX (cutbox-rows.mjs): the forced cells as the released guide's own fill.sh prints them over the translation eaddd60de15e8882… (all of the seat's roots in one cut). By AI agents, Wed Nov 11 2026. No macro, syntax, notation, axiom, sorry.
-/
import Derived.Test.YtgdijfhdpgdanaaGreatDoorChecked
import GoSem.Claim
import GoSem.ClaimJoined
import GoSem.ClaimMapViews
import Derived.JoinedTies
import Derived.KernelRfl
namespace Go.Proofs.YtgdijfhdpgdanaaGreatDoor
/- THE CELL 'sum', in the pinned program and in every row, IS THE sha256 OF THE DUMP (.gsa) THAT YtgdijfhdpgdanaaGreatDoorProg.lean LOADS. Nothing in Lean hashes anything: it is a label: what it is worth is what the hold of that sum in a sandbox is worth. -/
noncomputable def Tryz.pinned : Pinned := { name := "ytgdijfhdpgdanaagreatdoor", sum := "eaddd60de15e8882fff688fca75b4589665d6dfa290d79980c328242b6ebfc7d", checked := Tryz.checked }
namespace Rows
def none {H : Type} : Left H := { results := [], args := [] }

/- WHAT THE LISTED PACKAGE-LEVEL VARIABLES READ AS WHEN THE CALL BEGINS. Each datum BY PROGRAM (the guide's laid-datum.mjs) off the statement by which the dump's own 'gosem.cut.vars' lays the variable. In a bare row this is a premise. The card (YtgdijfhdpgdanaaGreatDoorCards.lean) ties it to the program's text. -/
def laid_foretell_polish_parts {H : Type} : DataW H := .agg [.lit (.int .i64 (-1)), .lit (.int .i64 0), .lit (.int .i64 0), .lit (.int .i64 2), .lit (.int .i64 2), .lit (.int .i64 2), .lit (.int .i64 2), .lit (.int .i64 2), .lit (.int .i64 2), .lit (.int .i64 2), .lit (.int .i64 1), .lit (.int .i64 0), .lit (.int .i64 0), .lit (.int .i64 0), .lit (.int .i64 1), .lit (.int .i64 2), .lit (.int .i64 2), .lit (.int .i64 1), .lit (.int .i64 1)]

/-- 'foretelllaw.ProductBehinds': WHATEVER THE INPUT: true; the input reads as it did. -/
def productBehindsSpec : ChangeSpec := { name := "productBehinds", fn := fun _ => fun
  | [d1, d2] => { results := [.lit (.bool true)], args := [d1, d2] }
  | _ => none }
def productBehindsRow : OpenClaim := { program := "ytgdijfhdpgdanaagreatdoor", sum := "eaddd60de15e8882fff688fca75b4589665d6dfa290d79980c328242b6ebfc7d", func := "foretell/foretelllaw.ProductBehinds", spec := "productBehinds", unfollowed := true, recurses := true, named := ["foretell/polish.parts"], plainKeys := false, apart := false, laid := [("foretell/polish.parts", laid_foretell_polish_parts)] }
def ProductBehindsSaid : Prop := productBehindsRow.holds Tryz.pinned (OpenSpec.ofChange productBehindsSpec)

/-- ITS FALSE NEIGHBOUR: 'it returns false'. Refute it at one input. -/
def productBehindsWrong : ChangeSpec := { name := "productBehinds", fn := fun _ => fun
  | [d1, d2] => { results := [.lit (.bool false)], args := [d1, d2] }
  | _ => none }
def ProductBehindsWrongFalsely : Prop := productBehindsRow.holds Tryz.pinned (OpenSpec.ofChange productBehindsWrong)

/-- 'foretelllaw.VerdictKeeps': WHATEVER THE INPUT: true; the input reads as it did. -/
def verdictKeepsSpec : ChangeSpec := { name := "verdictKeeps", fn := fun _ => fun
  | [d1, d2] => { results := [.lit (.bool true)], args := [d1, d2] }
  | _ => none }
def verdictKeepsRow : OpenClaim := { program := "ytgdijfhdpgdanaagreatdoor", sum := "eaddd60de15e8882fff688fca75b4589665d6dfa290d79980c328242b6ebfc7d", func := "foretell/foretelllaw.VerdictKeeps", spec := "verdictKeeps", unfollowed := true, recurses := true, named := ["foretell/polish.parts"], plainKeys := false, apart := false, laid := [("foretell/polish.parts", laid_foretell_polish_parts)] }
def VerdictKeepsSaid : Prop := verdictKeepsRow.holds Tryz.pinned (OpenSpec.ofChange verdictKeepsSpec)

/-- ITS FALSE NEIGHBOUR: 'it returns false'. Refute it at one input. -/
def verdictKeepsWrong : ChangeSpec := { name := "verdictKeeps", fn := fun _ => fun
  | [d1, d2] => { results := [.lit (.bool false)], args := [d1, d2] }
  | _ => none }
def VerdictKeepsWrongFalsely : Prop := verdictKeepsRow.holds Tryz.pinned (OpenSpec.ofChange verdictKeepsWrong)

/-- 'foretelllaw.ProductExplores': WHATEVER THE INPUT: true; the input reads as it did. -/
def productExploresSpec : ChangeSpec := { name := "productExplores", fn := fun _ => fun
  | [d] => { results := [.lit (.bool true)], args := [d] }
  | _ => none }
def productExploresRow : OpenClaim := { program := "ytgdijfhdpgdanaagreatdoor", sum := "eaddd60de15e8882fff688fca75b4589665d6dfa290d79980c328242b6ebfc7d", func := "foretell/foretelllaw.ProductExplores", spec := "productExplores", unfollowed := true, recurses := true, named := ["foretell/polish.parts"], plainKeys := false, apart := false, laid := [("foretell/polish.parts", laid_foretell_polish_parts)] }
def ProductExploresSaid : Prop := productExploresRow.holds Tryz.pinned (OpenSpec.ofChange productExploresSpec)

/-- ITS FALSE NEIGHBOUR: 'it returns false'. Refute it at one input. -/
def productExploresWrong : ChangeSpec := { name := "productExplores", fn := fun _ => fun
  | [d] => { results := [.lit (.bool false)], args := [d] }
  | _ => none }
def ProductExploresWrongFalsely : Prop := productExploresRow.holds Tryz.pinned (OpenSpec.ofChange productExploresWrong)

/- THE SECOND FORM. 'bulk': how many values and letters a reading holds, each counted each time it is reached (what is shared counts as often as it is met; a slice's spare places count too). A statement '..UptoSaid' is the law's where the arguments, and the package variables that the reading takes, are together of bulk at most 1048576: NARROWER than '..Said'. Prove '..Said' where nothing that the law and all that it calls make is longer than what came in: it says more and counts as full. Else prove '..UptoSaid'. A law counts once. -/
mutual
def uptoBulk {H : Type} : DataW H → Nat
  | .lit (.string bytes) => bytes.length + 1
  | .lit _ => 1
  | .nil => 1
  | .ptr d => uptoBulk d + 1
  | .slice elems spare => uptoBulkAll elems + uptoBulkAll spare + 1
  | .agg parts => uptoBulkAll parts + 1
  | .iface _ d => uptoBulk d + 1
  | .map entries => uptoBulkEntries entries + 1
  | .held _ => 1
def uptoBulkAll {H : Type} : List (DataW H) → Nat
  | [] => 0
  | d :: r => uptoBulk d + uptoBulkAll r
def uptoBulkEntries {H : Type} : List (Lit × DataW H) → Nat
  | [] => 0
  | x :: r => uptoBulkEntry x + uptoBulkEntries r
def uptoBulkEntry {H : Type} : Lit × DataW H → Nat
  | (.string bytes, d) => bytes.length + uptoBulk d + 1
  | (_, d) => uptoBulk d + 1
 end
def uptoSmall : (H : Type) → List (DataW H) → Bool := fun _ ds => decide (uptoBulkAll ds ≤ 1048576)
def OpenSpec.upto (s : _root_.Go.ChangeSpec) : _root_.Go.OpenSpec := { _root_.Go.OpenSpec.ofChange s with cond := some uptoSmall }

/-- 'foretelllaw.ProductBehinds', WHERE WHAT IT READS IS OF BULK AT MOST 1048576: true; the input reads as it did. -/
def productBehindsUptoRow : OpenClaim := { program := "ytgdijfhdpgdanaagreatdoor", sum := "eaddd60de15e8882fff688fca75b4589665d6dfa290d79980c328242b6ebfc7d", func := "foretell/foretelllaw.ProductBehinds", spec := "productBehinds", unfollowed := true, recurses := true, named := ["foretell/polish.parts"], plainKeys := false, apart := false, laid := [("foretell/polish.parts", laid_foretell_polish_parts)], narrowed := true }
def ProductBehindsUptoSaid : Prop := productBehindsUptoRow.holds Tryz.pinned (OpenSpec.upto productBehindsSpec)

/-- 'foretelllaw.VerdictKeeps', WHERE WHAT IT READS IS OF BULK AT MOST 1048576: true; the input reads as it did. -/
def verdictKeepsUptoRow : OpenClaim := { program := "ytgdijfhdpgdanaagreatdoor", sum := "eaddd60de15e8882fff688fca75b4589665d6dfa290d79980c328242b6ebfc7d", func := "foretell/foretelllaw.VerdictKeeps", spec := "verdictKeeps", unfollowed := true, recurses := true, named := ["foretell/polish.parts"], plainKeys := false, apart := false, laid := [("foretell/polish.parts", laid_foretell_polish_parts)], narrowed := true }
def VerdictKeepsUptoSaid : Prop := verdictKeepsUptoRow.holds Tryz.pinned (OpenSpec.upto verdictKeepsSpec)

/-- 'foretelllaw.ProductExplores', WHERE WHAT IT READS IS OF BULK AT MOST 1048576: true; the input reads as it did. -/
def productExploresUptoRow : OpenClaim := { program := "ytgdijfhdpgdanaagreatdoor", sum := "eaddd60de15e8882fff688fca75b4589665d6dfa290d79980c328242b6ebfc7d", func := "foretell/foretelllaw.ProductExplores", spec := "productExplores", unfollowed := true, recurses := true, named := ["foretell/polish.parts"], plainKeys := false, apart := false, laid := [("foretell/polish.parts", laid_foretell_polish_parts)], narrowed := true }
def ProductExploresUptoSaid : Prop := productExploresUptoRow.holds Tryz.pinned (OpenSpec.upto productExploresSpec)

end Rows
end Go.Proofs.YtgdijfhdpgdanaaGreatDoor
