-- WRITTEN by this session's own program (wip/pp.py) over the translation. Not trusted: Lean checks it.
import Derived.Test.YtkakmghadhafjaaWx0
import Derived.Test.YtkakmghadhafjaaOpens
namespace Go.Proofs.Ytkakmghadhafjaa.W
open Go.RowKit Go.Proofs.YtkakmghadhafjaaW.PrintWords Go.Proofs.YtkakmghadhafjaaW.PrintLast Go.Proofs.Ytkakmghadhafjaa
set_option linter.unusedVariables false
set_option maxRecDepth 100000
def G24 (x : S24) : Prop := ((x.f0.length * 24 ≤ 140737488351232 ∧ ∀ zxf0 ∈ x.f0, (zxf0.length * 1 ≤ 140737488351232 ∧ ∀ zzxf0 ∈ zxf0, True))) ∧ ((x.f1.length * 24 ≤ 140737488351232 ∧ ∀ zxf1 ∈ x.f1, (zxf1.length * 1 ≤ 140737488351232 ∧ ∀ zzxf1 ∈ zxf1, True)))
theorem o24 : Opens.Opens Try.prog k24 24 G24 := Opens.Opens.mono (Opens.opens_struct (gi := (fun p => ⟨p.1, p.2⟩)) Try.underlying24 (by kernel_rfl) (fun _ => rfl) (Opens.opensF_cons (by kernel_rfl) (Opens.opens_slice Try.underlying22 (by kernel_rfl) (by kernel_rfl) (Opens.opens_slice Try.underlying34 (by kernel_rfl) (by kernel_rfl) (Opens.opens_bool Try.underlying4))) (Opens.opensF_one (by kernel_rfl) (Opens.opens_slice Try.underlying22 (by kernel_rfl) (by kernel_rfl) (Opens.opens_slice Try.underlying34 (by kernel_rfl) (by kernel_rfl) (Opens.opens_bool Try.underlying4)))))) (fun x h => h)
end Go.Proofs.Ytkakmghadhafjaa.W
