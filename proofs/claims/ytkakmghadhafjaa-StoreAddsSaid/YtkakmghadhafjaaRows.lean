/-
  No cell of these rows narrows 'for every input' (looked for: loops, veiled, ifaces, maps, wideKeys, modest, calm, conditions, laid).
  DERIVED. THE GIVEN ROWS OF THIS SEAT. 9 by the template 'for every input the law returns true; each argument reads behind the call as it read before'; 0 by the template 'total and deterministic' (their statements: YtkakmghadhafjaaTotals.lean).
  GIVEN WITH THE SEED: the statements are not yours to turn. If you find one false, say at which input.
  Laid BY PROGRAM, IN A SANDBOX (cutbox-rows.mjs): the forced cells as the released guide's own fill.sh prints them over the translation c4328e7b39e5ae5e… (all of the seat's roots in one cut). By AI agents, Wed Nov 11 2026. No macro, syntax, notation, axiom, sorry.
-/
import Derived.Test.YtkakmghadhafjaaChecked
import GoSem.Claim
import GoSem.ClaimJoined
import GoSem.ClaimMapViews
import Derived.JoinedTies
import Derived.KernelRfl
namespace Go.Proofs.Ytkakmghadhafjaa
/- THE CELL 'sum', in the pinned program and in every row, IS THE sha256 OF THE DUMP (.gsa) THAT YtkakmghadhafjaaProg.lean LOADS. Nothing in Lean hashes anything: it is a label: what it is worth is what the hold of that sum in a sandbox is worth. -/
noncomputable def Try.pinned : Pinned := { name := "ytkakmghadhafjaa", sum := "c4328e7b39e5ae5e0ba4f5fbb0eafc4f143e05690f0c8200149321924e7c28c1", checked := Try.checked }
namespace Rows
def none {H : Type} : Left H := { results := [], args := [] }

/-- 'foretelllaw.WordChecks': WHATEVER THE INPUT: true; the input reads as it did. -/
def wordChecksSpec : ChangeSpec := { name := "wordChecks", fn := fun _ => fun
  | [d1, d2] => { results := [.lit (.bool true)], args := [d1, d2] }
  | _ => none }
def wordChecksRow : OpenClaim := { program := "ytkakmghadhafjaa", sum := "c4328e7b39e5ae5e0ba4f5fbb0eafc4f143e05690f0c8200149321924e7c28c1", func := "foretell/foretelllaw.WordChecks", spec := "wordChecks", apart := false }
def WordChecksSaid : Prop := wordChecksRow.holds Try.pinned (OpenSpec.ofChange wordChecksSpec)

/-- ITS FALSE NEIGHBOUR: 'it returns false'. Refute it at one input. -/
def wordChecksWrong : ChangeSpec := { name := "wordChecks", fn := fun _ => fun
  | [d1, d2] => { results := [.lit (.bool false)], args := [d1, d2] }
  | _ => none }
def WordChecksWrongFalsely : Prop := wordChecksRow.holds Try.pinned (OpenSpec.ofChange wordChecksWrong)

/-- 'foretelllaw.SccReacheds': WHATEVER THE INPUT: true; the input reads as it did. -/
def sccReachedsSpec : ChangeSpec := { name := "sccReacheds", fn := fun _ => fun
  | [d] => { results := [.lit (.bool true)], args := [d] }
  | _ => none }
def sccReachedsRow : OpenClaim := { program := "ytkakmghadhafjaa", sum := "c4328e7b39e5ae5e0ba4f5fbb0eafc4f143e05690f0c8200149321924e7c28c1", func := "foretell/foretelllaw.SccReacheds", spec := "sccReacheds", unfollowed := true, recurses := true, apart := false }
def SccReachedsSaid : Prop := sccReachedsRow.holds Try.pinned (OpenSpec.ofChange sccReachedsSpec)

/-- ITS FALSE NEIGHBOUR: 'it returns false'. Refute it at one input. -/
def sccReachedsWrong : ChangeSpec := { name := "sccReacheds", fn := fun _ => fun
  | [d] => { results := [.lit (.bool false)], args := [d] }
  | _ => none }
def SccReachedsWrongFalsely : Prop := sccReachedsRow.holds Try.pinned (OpenSpec.ofChange sccReachedsWrong)

/-- 'foretelllaw.SccParts': WHATEVER THE INPUT: true; the input reads as it did. -/
def sccPartsSpec : ChangeSpec := { name := "sccParts", fn := fun _ => fun
  | [d] => { results := [.lit (.bool true)], args := [d] }
  | _ => none }
def sccPartsRow : OpenClaim := { program := "ytkakmghadhafjaa", sum := "c4328e7b39e5ae5e0ba4f5fbb0eafc4f143e05690f0c8200149321924e7c28c1", func := "foretell/foretelllaw.SccParts", spec := "sccParts", apart := false }
def SccPartsSaid : Prop := sccPartsRow.holds Try.pinned (OpenSpec.ofChange sccPartsSpec)

/-- ITS FALSE NEIGHBOUR: 'it returns false'. Refute it at one input. -/
def sccPartsWrong : ChangeSpec := { name := "sccParts", fn := fun _ => fun
  | [d] => { results := [.lit (.bool false)], args := [d] }
  | _ => none }
def SccPartsWrongFalsely : Prop := sccPartsRow.holds Try.pinned (OpenSpec.ofChange sccPartsWrong)

/-- 'foretelllaw.SccFairs': WHATEVER THE INPUT: true; the input reads as it did. -/
def sccFairsSpec : ChangeSpec := { name := "sccFairs", fn := fun _ => fun
  | [d] => { results := [.lit (.bool true)], args := [d] }
  | _ => none }
def sccFairsRow : OpenClaim := { program := "ytkakmghadhafjaa", sum := "c4328e7b39e5ae5e0ba4f5fbb0eafc4f143e05690f0c8200149321924e7c28c1", func := "foretell/foretelllaw.SccFairs", spec := "sccFairs", unfollowed := true, recurses := true, apart := false }
def SccFairsSaid : Prop := sccFairsRow.holds Try.pinned (OpenSpec.ofChange sccFairsSpec)

/-- ITS FALSE NEIGHBOUR: 'it returns false'. Refute it at one input. -/
def sccFairsWrong : ChangeSpec := { name := "sccFairs", fn := fun _ => fun
  | [d] => { results := [.lit (.bool false)], args := [d] }
  | _ => none }
def SccFairsWrongFalsely : Prop := sccFairsRow.holds Try.pinned (OpenSpec.ofChange sccFairsWrong)

/-- 'foretelllaw.SccLassos': WHATEVER THE INPUT: true; the input reads as it did. -/
def sccLassosSpec : ChangeSpec := { name := "sccLassos", fn := fun _ => fun
  | [d] => { results := [.lit (.bool true)], args := [d] }
  | _ => none }
def sccLassosRow : OpenClaim := { program := "ytkakmghadhafjaa", sum := "c4328e7b39e5ae5e0ba4f5fbb0eafc4f143e05690f0c8200149321924e7c28c1", func := "foretell/foretelllaw.SccLassos", spec := "sccLassos", unfollowed := true, recurses := true, apart := false }
def SccLassosSaid : Prop := sccLassosRow.holds Try.pinned (OpenSpec.ofChange sccLassosSpec)

/-- ITS FALSE NEIGHBOUR: 'it returns false'. Refute it at one input. -/
def sccLassosWrong : ChangeSpec := { name := "sccLassos", fn := fun _ => fun
  | [d] => { results := [.lit (.bool false)], args := [d] }
  | _ => none }
def SccLassosWrongFalsely : Prop := sccLassosRow.holds Try.pinned (OpenSpec.ofChange sccLassosWrong)

/-- 'foretelllaw.StoreChecks': WHATEVER THE INPUT: true; the input reads as it did. -/
def storeChecksSpec : ChangeSpec := { name := "storeChecks", fn := fun _ => fun
  | [d] => { results := [.lit (.bool true)], args := [d] }
  | _ => none }
def storeChecksRow : OpenClaim := { program := "ytkakmghadhafjaa", sum := "c4328e7b39e5ae5e0ba4f5fbb0eafc4f143e05690f0c8200149321924e7c28c1", func := "foretell/foretelllaw.StoreChecks", spec := "storeChecks", unfollowed := true, recurses := true, apart := false }
def StoreChecksSaid : Prop := storeChecksRow.holds Try.pinned (OpenSpec.ofChange storeChecksSpec)

/-- ITS FALSE NEIGHBOUR: 'it returns false'. Refute it at one input. -/
def storeChecksWrong : ChangeSpec := { name := "storeChecks", fn := fun _ => fun
  | [d] => { results := [.lit (.bool false)], args := [d] }
  | _ => none }
def StoreChecksWrongFalsely : Prop := storeChecksRow.holds Try.pinned (OpenSpec.ofChange storeChecksWrong)

/-- 'foretelllaw.StoreAlls': WHATEVER THE INPUT: true; the input reads as it did. -/
def storeAllsSpec : ChangeSpec := { name := "storeAlls", fn := fun _ => fun
  | [d] => { results := [.lit (.bool true)], args := [d] }
  | _ => none }
def storeAllsRow : OpenClaim := { program := "ytkakmghadhafjaa", sum := "c4328e7b39e5ae5e0ba4f5fbb0eafc4f143e05690f0c8200149321924e7c28c1", func := "foretell/foretelllaw.StoreAlls", spec := "storeAlls", unfollowed := true, recurses := true, apart := false }
def StoreAllsSaid : Prop := storeAllsRow.holds Try.pinned (OpenSpec.ofChange storeAllsSpec)

/-- ITS FALSE NEIGHBOUR: 'it returns false'. Refute it at one input. -/
def storeAllsWrong : ChangeSpec := { name := "storeAlls", fn := fun _ => fun
  | [d] => { results := [.lit (.bool false)], args := [d] }
  | _ => none }
def StoreAllsWrongFalsely : Prop := storeAllsRow.holds Try.pinned (OpenSpec.ofChange storeAllsWrong)

/-- 'foretelllaw.StoreHas': WHATEVER THE INPUT: true; the input reads as it did. -/
def storeHasSpec : ChangeSpec := { name := "storeHas", fn := fun _ => fun
  | [d1, d2] => { results := [.lit (.bool true)], args := [d1, d2] }
  | _ => none }
def storeHasRow : OpenClaim := { program := "ytkakmghadhafjaa", sum := "c4328e7b39e5ae5e0ba4f5fbb0eafc4f143e05690f0c8200149321924e7c28c1", func := "foretell/foretelllaw.StoreHas", spec := "storeHas", unfollowed := true, recurses := true, apart := false }
def StoreHasSaid : Prop := storeHasRow.holds Try.pinned (OpenSpec.ofChange storeHasSpec)

/-- ITS FALSE NEIGHBOUR: 'it returns false'. Refute it at one input. -/
def storeHasWrong : ChangeSpec := { name := "storeHas", fn := fun _ => fun
  | [d1, d2] => { results := [.lit (.bool false)], args := [d1, d2] }
  | _ => none }
def StoreHasWrongFalsely : Prop := storeHasRow.holds Try.pinned (OpenSpec.ofChange storeHasWrong)

/-- 'foretelllaw.StoreAdds': WHATEVER THE INPUT: true; the input reads as it did. -/
def storeAddsSpec : ChangeSpec := { name := "storeAdds", fn := fun _ => fun
  | [d1, d2] => { results := [.lit (.bool true)], args := [d1, d2] }
  | _ => none }
def storeAddsRow : OpenClaim := { program := "ytkakmghadhafjaa", sum := "c4328e7b39e5ae5e0ba4f5fbb0eafc4f143e05690f0c8200149321924e7c28c1", func := "foretell/foretelllaw.StoreAdds", spec := "storeAdds", unfollowed := true, recurses := true, apart := false }
def StoreAddsSaid : Prop := storeAddsRow.holds Try.pinned (OpenSpec.ofChange storeAddsSpec)

/-- ITS FALSE NEIGHBOUR: 'it returns false'. Refute it at one input. -/
def storeAddsWrong : ChangeSpec := { name := "storeAdds", fn := fun _ => fun
  | [d1, d2] => { results := [.lit (.bool false)], args := [d1, d2] }
  | _ => none }
def StoreAddsWrongFalsely : Prop := storeAddsRow.holds Try.pinned (OpenSpec.ofChange storeAddsWrong)

/- THE SECOND FORM. 'bulk': how many values and letters a reading holds, each counted each time it is reached (what is shared counts as often as it is met; a slice's spare places count too). A statement '..UptoSaid' is the law's where the arguments, and the package variables that the reading takes, are together of bulk at most 1048576: NARROWER than '..Said'. Prove '..Said' where nothing that the law and all that it calls make is longer than what came in: it says more and counts as full. Else prove '..UptoSaid'. A law counts once. -/
mutual
def uptoBulk {H : Type} : DataW H → Nat
  | .lit (.string bytes) => bytes.length + 1
  | .lit _ => 1
  | .nil => 1
  | .ptr d => uptoBulk d + 1
  | .slice elems spare => uptoBulkAll elems + uptoBulkAll spare + 1
  | .agg parts => uptoBulkAll parts + 1
  | .iface _ d => uptoBulk d + 1
  | .map entries => uptoBulkEntries entries + 1
  | .held _ => 1
def uptoBulkAll {H : Type} : List (DataW H) → Nat
  | [] => 0
  | d :: r => uptoBulk d + uptoBulkAll r
def uptoBulkEntries {H : Type} : List (Lit × DataW H) → Nat
  | [] => 0
  | x :: r => uptoBulkEntry x + uptoBulkEntries r
def uptoBulkEntry {H : Type} : Lit × DataW H → Nat
  | (.string bytes, d) => bytes.length + uptoBulk d + 1
  | (_, d) => uptoBulk d + 1
 end
def uptoSmall : (H : Type) → List (DataW H) → Bool := fun _ ds => decide (uptoBulkAll ds ≤ 1048576)
def OpenSpec.upto (s : _root_.Go.ChangeSpec) : _root_.Go.OpenSpec := { _root_.Go.OpenSpec.ofChange s with cond := some uptoSmall }

/-- 'foretelllaw.WordChecks', WHERE WHAT IT READS IS OF BULK AT MOST 1048576: true; the input reads as it did. -/
def wordChecksUptoRow : OpenClaim := { program := "ytkakmghadhafjaa", sum := "c4328e7b39e5ae5e0ba4f5fbb0eafc4f143e05690f0c8200149321924e7c28c1", func := "foretell/foretelllaw.WordChecks", spec := "wordChecks", apart := false, narrowed := true }
def WordChecksUptoSaid : Prop := wordChecksUptoRow.holds Try.pinned (OpenSpec.upto wordChecksSpec)

/-- 'foretelllaw.SccReacheds', WHERE WHAT IT READS IS OF BULK AT MOST 1048576: true; the input reads as it did. -/
def sccReachedsUptoRow : OpenClaim := { program := "ytkakmghadhafjaa", sum := "c4328e7b39e5ae5e0ba4f5fbb0eafc4f143e05690f0c8200149321924e7c28c1", func := "foretell/foretelllaw.SccReacheds", spec := "sccReacheds", unfollowed := true, recurses := true, apart := false, narrowed := true }
def SccReachedsUptoSaid : Prop := sccReachedsUptoRow.holds Try.pinned (OpenSpec.upto sccReachedsSpec)

/-- 'foretelllaw.SccParts', WHERE WHAT IT READS IS OF BULK AT MOST 1048576: true; the input reads as it did. -/
def sccPartsUptoRow : OpenClaim := { program := "ytkakmghadhafjaa", sum := "c4328e7b39e5ae5e0ba4f5fbb0eafc4f143e05690f0c8200149321924e7c28c1", func := "foretell/foretelllaw.SccParts", spec := "sccParts", apart := false, narrowed := true }
def SccPartsUptoSaid : Prop := sccPartsUptoRow.holds Try.pinned (OpenSpec.upto sccPartsSpec)

/-- 'foretelllaw.SccFairs', WHERE WHAT IT READS IS OF BULK AT MOST 1048576: true; the input reads as it did. -/
def sccFairsUptoRow : OpenClaim := { program := "ytkakmghadhafjaa", sum := "c4328e7b39e5ae5e0ba4f5fbb0eafc4f143e05690f0c8200149321924e7c28c1", func := "foretell/foretelllaw.SccFairs", spec := "sccFairs", unfollowed := true, recurses := true, apart := false, narrowed := true }
def SccFairsUptoSaid : Prop := sccFairsUptoRow.holds Try.pinned (OpenSpec.upto sccFairsSpec)

/-- 'foretelllaw.SccLassos', WHERE WHAT IT READS IS OF BULK AT MOST 1048576: true; the input reads as it did. -/
def sccLassosUptoRow : OpenClaim := { program := "ytkakmghadhafjaa", sum := "c4328e7b39e5ae5e0ba4f5fbb0eafc4f143e05690f0c8200149321924e7c28c1", func := "foretell/foretelllaw.SccLassos", spec := "sccLassos", unfollowed := true, recurses := true, apart := false, narrowed := true }
def SccLassosUptoSaid : Prop := sccLassosUptoRow.holds Try.pinned (OpenSpec.upto sccLassosSpec)

/-- 'foretelllaw.StoreChecks', WHERE WHAT IT READS IS OF BULK AT MOST 1048576: true; the input reads as it did. -/
def storeChecksUptoRow : OpenClaim := { program := "ytkakmghadhafjaa", sum := "c4328e7b39e5ae5e0ba4f5fbb0eafc4f143e05690f0c8200149321924e7c28c1", func := "foretell/foretelllaw.StoreChecks", spec := "storeChecks", unfollowed := true, recurses := true, apart := false, narrowed := true }
def StoreChecksUptoSaid : Prop := storeChecksUptoRow.holds Try.pinned (OpenSpec.upto storeChecksSpec)

/-- 'foretelllaw.StoreAlls', WHERE WHAT IT READS IS OF BULK AT MOST 1048576: true; the input reads as it did. -/
def storeAllsUptoRow : OpenClaim := { program := "ytkakmghadhafjaa", sum := "c4328e7b39e5ae5e0ba4f5fbb0eafc4f143e05690f0c8200149321924e7c28c1", func := "foretell/foretelllaw.StoreAlls", spec := "storeAlls", unfollowed := true, recurses := true, apart := false, narrowed := true }
def StoreAllsUptoSaid : Prop := storeAllsUptoRow.holds Try.pinned (OpenSpec.upto storeAllsSpec)

/-- 'foretelllaw.StoreHas', WHERE WHAT IT READS IS OF BULK AT MOST 1048576: true; the input reads as it did. -/
def storeHasUptoRow : OpenClaim := { program := "ytkakmghadhafjaa", sum := "c4328e7b39e5ae5e0ba4f5fbb0eafc4f143e05690f0c8200149321924e7c28c1", func := "foretell/foretelllaw.StoreHas", spec := "storeHas", unfollowed := true, recurses := true, apart := false, narrowed := true }
def StoreHasUptoSaid : Prop := storeHasUptoRow.holds Try.pinned (OpenSpec.upto storeHasSpec)

/-- 'foretelllaw.StoreAdds', WHERE WHAT IT READS IS OF BULK AT MOST 1048576: true; the input reads as it did. -/
def storeAddsUptoRow : OpenClaim := { program := "ytkakmghadhafjaa", sum := "c4328e7b39e5ae5e0ba4f5fbb0eafc4f143e05690f0c8200149321924e7c28c1", func := "foretell/foretelllaw.StoreAdds", spec := "storeAdds", unfollowed := true, recurses := true, apart := false, narrowed := true }
def StoreAddsUptoSaid : Prop := storeAddsUptoRow.holds Try.pinned (OpenSpec.upto storeAddsSpec)

end Rows
end Go.Proofs.Ytkakmghadhafjaa
