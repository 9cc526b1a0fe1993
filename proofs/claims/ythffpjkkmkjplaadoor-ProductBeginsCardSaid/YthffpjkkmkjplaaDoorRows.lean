/-
  NARROWER THAN 'FOR EVERY INPUT', by the rows' own cells (each row's printed sentence says how): WordMoments: laid · WordHolds: laid · WordClaims: laid · ProductBegins: laid.
  DERIVED. THE GIVEN ROWS OF THIS SEAT. 4 by the template 'for every input the law returns true; each argument reads behind the call as it read before'; 0 by the template 'total and deterministic' (their statements: YthffpjkkmkjplaaDoorTotals.lean).
  GIVEN WITH THE SEED: the statements are not yours to turn. If you find one false, say at which input.
  Laid BY PROGRAM, IN A SANDBOX (cutbox-rows.mjs): the forced cells as the released guide's own fill.sh prints them over the translation 4495527a8d9296bd… (all of the seat's roots in one cut). By AI agents, Wed Nov 11 2026. No macro, syntax, notation, axiom, sorry.
-/
import Derived.Test.YthffpjkkmkjplaaDoorChecked
import GoSem.Claim
import GoSem.ClaimJoined
import GoSem.ClaimMapViews
import Derived.JoinedTies
import Derived.KernelRfl
namespace Go.Proofs.YthffpjkkmkjplaaDoor
/- THE CELL 'sum', in the pinned program and in every row, IS THE sha256 OF THE DUMP (.gsa) THAT YthffpjkkmkjplaaDoorProg.lean LOADS. Nothing in Lean hashes anything: it is a label: what it is worth is what the hold of that sum in a sandbox is worth. -/
noncomputable def Tryd.pinned : Pinned := { name := "ythffpjkkmkjplaadoor", sum := "4495527a8d9296bdacc149638eda5b46f91a4fccc2b054df34fe9f9c8199a74d", checked := Tryd.checked }
namespace Rows
def none {H : Type} : Left H := { results := [], args := [] }

/- WHAT THE LISTED PACKAGE-LEVEL VARIABLES READ AS WHEN THE CALL BEGINS. Each datum BY PROGRAM (the guide's laid-datum.mjs) off the statement by which the dump's own 'gosem.cut.vars' lays the variable. In a bare row this is a premise. The card (YthffpjkkmkjplaaDoorCards.lean) ties it to the program's text. -/
def laid_foretell_polish_parts {H : Type} : DataW H := .agg [.lit (.int .i64 (-1)), .lit (.int .i64 0), .lit (.int .i64 0), .lit (.int .i64 2), .lit (.int .i64 2), .lit (.int .i64 2), .lit (.int .i64 2), .lit (.int .i64 2), .lit (.int .i64 2), .lit (.int .i64 2), .lit (.int .i64 1), .lit (.int .i64 0), .lit (.int .i64 0), .lit (.int .i64 0), .lit (.int .i64 1), .lit (.int .i64 2), .lit (.int .i64 2), .lit (.int .i64 1), .lit (.int .i64 1)]

/-- 'foretelllaw.WordMoments': WHATEVER THE INPUT: true; the input reads as it did. -/
def wordMomentsSpec : ChangeSpec := { name := "wordMoments", fn := fun _ => fun
  | [d1, d2, d3] => { results := [.lit (.bool true)], args := [d1, d2, d3] }
  | _ => none }
def wordMomentsRow : OpenClaim := { program := "ythffpjkkmkjplaadoor", sum := "4495527a8d9296bdacc149638eda5b46f91a4fccc2b054df34fe9f9c8199a74d", func := "foretell/foretelllaw.WordMoments", spec := "wordMoments", unfollowed := true, recurses := true, named := ["foretell/polish.parts"], apart := false, laid := [("foretell/polish.parts", laid_foretell_polish_parts)] }
def WordMomentsSaid : Prop := wordMomentsRow.holds Tryd.pinned (OpenSpec.ofChange wordMomentsSpec)

/-- ITS FALSE NEIGHBOUR: 'it returns false'. Refute it at one input. -/
def wordMomentsWrong : ChangeSpec := { name := "wordMoments", fn := fun _ => fun
  | [d1, d2, d3] => { results := [.lit (.bool false)], args := [d1, d2, d3] }
  | _ => none }
def WordMomentsWrongFalsely : Prop := wordMomentsRow.holds Tryd.pinned (OpenSpec.ofChange wordMomentsWrong)

/-- 'foretelllaw.WordHolds': WHATEVER THE INPUT: true; the input reads as it did. -/
def wordHoldsSpec : ChangeSpec := { name := "wordHolds", fn := fun _ => fun
  | [d1, d2, d3] => { results := [.lit (.bool true)], args := [d1, d2, d3] }
  | _ => none }
def wordHoldsRow : OpenClaim := { program := "ythffpjkkmkjplaadoor", sum := "4495527a8d9296bdacc149638eda5b46f91a4fccc2b054df34fe9f9c8199a74d", func := "foretell/foretelllaw.WordHolds", spec := "wordHolds", unfollowed := true, recurses := true, named := ["foretell/polish.parts"], apart := false, laid := [("foretell/polish.parts", laid_foretell_polish_parts)] }
def WordHoldsSaid : Prop := wordHoldsRow.holds Tryd.pinned (OpenSpec.ofChange wordHoldsSpec)

/-- ITS FALSE NEIGHBOUR: 'it returns false'. Refute it at one input. -/
def wordHoldsWrong : ChangeSpec := { name := "wordHolds", fn := fun _ => fun
  | [d1, d2, d3] => { results := [.lit (.bool false)], args := [d1, d2, d3] }
  | _ => none }
def WordHoldsWrongFalsely : Prop := wordHoldsRow.holds Tryd.pinned (OpenSpec.ofChange wordHoldsWrong)

/-- 'foretelllaw.WordClaims': WHATEVER THE INPUT: true; the input reads as it did. -/
def wordClaimsSpec : ChangeSpec := { name := "wordClaims", fn := fun _ => fun
  | [d1, d2, d3] => { results := [.lit (.bool true)], args := [d1, d2, d3] }
  | _ => none }
def wordClaimsRow : OpenClaim := { program := "ythffpjkkmkjplaadoor", sum := "4495527a8d9296bdacc149638eda5b46f91a4fccc2b054df34fe9f9c8199a74d", func := "foretell/foretelllaw.WordClaims", spec := "wordClaims", unfollowed := true, recurses := true, named := ["foretell/polish.parts"], apart := false, laid := [("foretell/polish.parts", laid_foretell_polish_parts)] }
def WordClaimsSaid : Prop := wordClaimsRow.holds Tryd.pinned (OpenSpec.ofChange wordClaimsSpec)

/-- ITS FALSE NEIGHBOUR: 'it returns false'. Refute it at one input. -/
def wordClaimsWrong : ChangeSpec := { name := "wordClaims", fn := fun _ => fun
  | [d1, d2, d3] => { results := [.lit (.bool false)], args := [d1, d2, d3] }
  | _ => none }
def WordClaimsWrongFalsely : Prop := wordClaimsRow.holds Tryd.pinned (OpenSpec.ofChange wordClaimsWrong)

/-- 'foretelllaw.ProductBegins': WHATEVER THE INPUT: true; the input reads as it did. -/
def productBeginsSpec : ChangeSpec := { name := "productBegins", fn := fun _ => fun
  | [d] => { results := [.lit (.bool true)], args := [d] }
  | _ => none }
def productBeginsRow : OpenClaim := { program := "ythffpjkkmkjplaadoor", sum := "4495527a8d9296bdacc149638eda5b46f91a4fccc2b054df34fe9f9c8199a74d", func := "foretell/foretelllaw.ProductBegins", spec := "productBegins", unfollowed := true, recurses := true, named := ["foretell/polish.parts"], apart := false, laid := [("foretell/polish.parts", laid_foretell_polish_parts)] }
def ProductBeginsSaid : Prop := productBeginsRow.holds Tryd.pinned (OpenSpec.ofChange productBeginsSpec)

/-- ITS FALSE NEIGHBOUR: 'it returns false'. Refute it at one input. -/
def productBeginsWrong : ChangeSpec := { name := "productBegins", fn := fun _ => fun
  | [d] => { results := [.lit (.bool false)], args := [d] }
  | _ => none }
def ProductBeginsWrongFalsely : Prop := productBeginsRow.holds Tryd.pinned (OpenSpec.ofChange productBeginsWrong)

/- THE SECOND FORM. 'bulk': how many values and letters a reading holds, each counted each time it is reached (what is shared counts as often as it is met; a slice's spare places count too). A statement '..UptoSaid' is the law's where the arguments, and the package variables that the reading takes, are together of bulk at most 1048576: NARROWER than '..Said'. Prove '..Said' where nothing that the law and all that it calls make is longer than what came in: it says more and counts as full. Else prove '..UptoSaid'. A law counts once. -/
mutual
def uptoBulk {H : Type} : DataW H → Nat
  | .lit (.string bytes) => bytes.length + 1
  | .lit _ => 1
  | .nil => 1
  | .ptr d => uptoBulk d + 1
  | .slice elems spare => uptoBulkAll elems + uptoBulkAll spare + 1
  | .agg parts => uptoBulkAll parts + 1
  | .iface _ d => uptoBulk d + 1
  | .map entries => uptoBulkEntries entries + 1
  | .held _ => 1
def uptoBulkAll {H : Type} : List (DataW H) → Nat
  | [] => 0
  | d :: r => uptoBulk d + uptoBulkAll r
def uptoBulkEntries {H : Type} : List (Lit × DataW H) → Nat
  | [] => 0
  | x :: r => uptoBulkEntry x + uptoBulkEntries r
def uptoBulkEntry {H : Type} : Lit × DataW H → Nat
  | (.string bytes, d) => bytes.length + uptoBulk d + 1
  | (_, d) => uptoBulk d + 1
 end
def uptoSmall : (H : Type) → List (DataW H) → Bool := fun _ ds => decide (uptoBulkAll ds ≤ 1048576)
def OpenSpec.upto (s : _root_.Go.ChangeSpec) : _root_.Go.OpenSpec := { _root_.Go.OpenSpec.ofChange s with cond := some uptoSmall }

/-- 'foretelllaw.WordMoments', WHERE WHAT IT READS IS OF BULK AT MOST 1048576: true; the input reads as it did. -/
def wordMomentsUptoRow : OpenClaim := { program := "ythffpjkkmkjplaadoor", sum := "4495527a8d9296bdacc149638eda5b46f91a4fccc2b054df34fe9f9c8199a74d", func := "foretell/foretelllaw.WordMoments", spec := "wordMoments", unfollowed := true, recurses := true, named := ["foretell/polish.parts"], apart := false, laid := [("foretell/polish.parts", laid_foretell_polish_parts)], narrowed := true }
def WordMomentsUptoSaid : Prop := wordMomentsUptoRow.holds Tryd.pinned (OpenSpec.upto wordMomentsSpec)

/-- 'foretelllaw.WordHolds', WHERE WHAT IT READS IS OF BULK AT MOST 1048576: true; the input reads as it did. -/
def wordHoldsUptoRow : OpenClaim := { program := "ythffpjkkmkjplaadoor", sum := "4495527a8d9296bdacc149638eda5b46f91a4fccc2b054df34fe9f9c8199a74d", func := "foretell/foretelllaw.WordHolds", spec := "wordHolds", unfollowed := true, recurses := true, named := ["foretell/polish.parts"], apart := false, laid := [("foretell/polish.parts", laid_foretell_polish_parts)], narrowed := true }
def WordHoldsUptoSaid : Prop := wordHoldsUptoRow.holds Tryd.pinned (OpenSpec.upto wordHoldsSpec)

/-- 'foretelllaw.WordClaims', WHERE WHAT IT READS IS OF BULK AT MOST 1048576: true; the input reads as it did. -/
def wordClaimsUptoRow : OpenClaim := { program := "ythffpjkkmkjplaadoor", sum := "4495527a8d9296bdacc149638eda5b46f91a4fccc2b054df34fe9f9c8199a74d", func := "foretell/foretelllaw.WordClaims", spec := "wordClaims", unfollowed := true, recurses := true, named := ["foretell/polish.parts"], apart := false, laid := [("foretell/polish.parts", laid_foretell_polish_parts)], narrowed := true }
def WordClaimsUptoSaid : Prop := wordClaimsUptoRow.holds Tryd.pinned (OpenSpec.upto wordClaimsSpec)

/-- 'foretelllaw.ProductBegins', WHERE WHAT IT READS IS OF BULK AT MOST 1048576: true; the input reads as it did. -/
def productBeginsUptoRow : OpenClaim := { program := "ythffpjkkmkjplaadoor", sum := "4495527a8d9296bdacc149638eda5b46f91a4fccc2b054df34fe9f9c8199a74d", func := "foretell/foretelllaw.ProductBegins", spec := "productBegins", unfollowed := true, recurses := true, named := ["foretell/polish.parts"], apart := false, laid := [("foretell/polish.parts", laid_foretell_polish_parts)], narrowed := true }
def ProductBeginsUptoSaid : Prop := productBeginsUptoRow.holds Tryd.pinned (OpenSpec.upto productBeginsSpec)

end Rows
end Go.Proofs.YthffpjkkmkjplaaDoor
