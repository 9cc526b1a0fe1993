-- Cut by a program of this session (wip/prune.py) from a longer text: declarations that the law does not need are left out.
import Derived.Test.YtkakmghadhafjaaKSccFairsQx0
import Derived.Test.YtkakmghadhafjaaKSccFairsOpens
namespace Go.Proofs.Ytkakmghadhafjaa.Q
open Go.RowKit Go.Proofs.YtkakmghadhafjaaW.PrintWords Go.Proofs.YtkakmghadhafjaaW.PrintLast Go.Proofs.Ytkakmghadhafjaa
set_option linter.unusedVariables false
set_option maxRecDepth 100000
def G98 (x : S98) : Prop := ((Lit.int .i64 x.f0).wf = true) ∧ ((Lit.int .i64 x.f1).wf = true)
theorem o98 : Opens.Opens Try.prog k98 98 G98 := Opens.Opens.mono (Opens.opens_struct (gi := (fun p => ⟨p.1, p.2⟩)) Try.underlying98 (by kernel_rfl) (fun _ => rfl) (Opens.opensF_cons (by kernel_rfl) (Opens.opens_int (ik := .i64) Try.underlying3) (Opens.opensF_one (by kernel_rfl) (Opens.opens_int (ik := .i64) Try.underlying3)))) (fun x h => h)
def G33 (x : S33) : Prop := ((x.f0.length * 16 ≤ 140737488351232 ∧ ∀ zxf0 ∈ x.f0, G98 zxf0)) ∧ ((Lit.int .i64 x.f1).wf = true) ∧ ((x.f2.length * 24 ≤ 140737488351232 ∧ ∀ zxf2 ∈ x.f2, (zxf2.length * 8 ≤ 140737488351232 ∧ ∀ zzxf2 ∈ zxf2, (Lit.int .i64 zzxf2).wf = true))) ∧ ((x.f3.length * 8 ≤ 140737488351232 ∧ ∀ zxf3 ∈ x.f3, (Lit.int .i64 zxf3).wf = true)) ∧ ((Lit.int .i64 x.f4).wf = true)
theorem o33 : Opens.Opens Try.prog k33 33 G33 := Opens.Opens.mono (Opens.opens_struct (gi := (fun p => ⟨p.1, p.2.1, p.2.2.1, p.2.2.2.1, p.2.2.2.2⟩)) Try.underlying33 (by kernel_rfl) (fun _ => rfl) (Opens.opensF_cons (by kernel_rfl) (Opens.opens_slice Try.underlying29 (by kernel_rfl) (by kernel_rfl) o98) (Opens.opensF_cons (by kernel_rfl) (Opens.opens_int (ik := .i64) Try.underlying3) (Opens.opensF_cons (by kernel_rfl) (Opens.opens_slice Try.underlying30 (by kernel_rfl) (by kernel_rfl) (Opens.opens_slice Try.underlying31 (by kernel_rfl) (by kernel_rfl) (Opens.opens_int (ik := .i64) Try.underlying3))) (Opens.opensF_cons (by kernel_rfl) (Opens.opens_slice Try.underlying31 (by kernel_rfl) (by kernel_rfl) (Opens.opens_int (ik := .i64) Try.underlying3)) (Opens.opensF_one (by kernel_rfl) (Opens.opens_int (ik := .i64) Try.underlying3))))))) (fun x h => h)
end Go.Proofs.Ytkakmghadhafjaa.Q
