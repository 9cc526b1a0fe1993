-- Cut by a program of this session (wip/prune.py) from a longer text: declarations that the law does not need are left out.
import Derived.Test.YtkakmghadhafjaaKStoreAddsRx0
import Derived.Test.YtkakmghadhafjaaKStoreAddsOpens
namespace Go.Proofs.Ytkakmghadhafjaa.R
open Go.RowKit Go.Proofs.YtkakmghadhafjaaW.PrintWords Go.Proofs.YtkakmghadhafjaaW.PrintLast Go.Proofs.Ytkakmghadhafjaa
set_option linter.unusedVariables false
set_option maxRecDepth 100000
def G52 (x : S52) : Prop := ((x.f0.length * 8 ≤ 140737488351232 ∧ ∀ zxf0 ∈ x.f0, (Lit.int .i64 zxf0).wf = true)) ∧ ((x.f1.length * 24 ≤ 140737488351232 ∧ ∀ zxf1 ∈ x.f1, (zxf1.length * 8 ≤ 140737488351232 ∧ ∀ zzxf1 ∈ zxf1, (Lit.int .i64 zzxf1).wf = true)))
theorem o52 : Opens.Opens Try.prog k52 52 G52 := Opens.Opens.mono (Opens.opens_struct (gi := (fun p => ⟨p.1, p.2⟩)) Try.underlying52 (by kernel_rfl) (fun _ => rfl) (Opens.opensF_cons (by kernel_rfl) (Opens.opens_slice Try.underlying31 (by kernel_rfl) (by kernel_rfl) (Opens.opens_int (ik := .i64) Try.underlying3)) (Opens.opensF_one (by kernel_rfl) (Opens.opens_slice Try.underlying30 (by kernel_rfl) (by kernel_rfl) (Opens.opens_slice Try.underlying31 (by kernel_rfl) (by kernel_rfl) (Opens.opens_int (ik := .i64) Try.underlying3)))))) (fun x h => h)
end Go.Proofs.Ytkakmghadhafjaa.R
