-- WRITTEN by this session's own program (wip/pp.py) over the translation. Not trusted: Lean checks it.
import Derived.Test.YtlnpfhadkbpjoaaQx0
import Derived.Test.YtlnpfhadkbpjoaaOpens
namespace Go.Proofs.Ytlnpfhadkbpjoaa.Q
open Go.RowKit Go.Proofs.YtlnpfhadkbpjoaaW.PrintWords Go.Proofs.YtlnpfhadkbpjoaaW.PrintLast Go.Proofs.Ytlnpfhadkbpjoaa
set_option linter.unusedVariables false
set_option maxRecDepth 100000
def G24 (x : S24) : Prop := ((x.f0.length * 1 ≤ 140737488351232 ∧ ∀ zxf0 ∈ x.f0, (Lit.int .u8 zxf0).wf = true)) ∧ ((Lit.int .i64 x.f1).wf = true)
theorem o24 : Opens.Opens Try.prog k24 24 G24 := Opens.Opens.mono (Opens.opens_struct (gi := (fun p => ⟨p.1, p.2⟩)) Try.underlying24 (by kernel_rfl) (fun _ => rfl) (Opens.opensF_cons (by kernel_rfl) (Opens.opens_slice Try.underlying22 (by kernel_rfl) (by kernel_rfl) (Opens.opens_int (ik := .u8) Try.underlying5)) (Opens.opensF_one (by kernel_rfl) (Opens.opens_int (ik := .i64) Try.underlying3)))) (fun x h => h)
end Go.Proofs.Ytlnpfhadkbpjoaa.Q
