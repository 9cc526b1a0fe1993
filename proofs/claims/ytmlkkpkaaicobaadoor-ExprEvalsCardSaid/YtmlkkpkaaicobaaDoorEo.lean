-- WRITTEN by this session's own program (wip/pp.py) over the translation. Not trusted: Lean checks it.
import Derived.Test.YtmlkkpkaaicobaaDoorEx0
import Derived.Test.YtmlkkpkaaicobaaDoorOpens
namespace Go.Proofs.YtmlkkpkaaicobaaDoor.E
open Go.RowKit Go.Proofs.YtmlkkpkaaicobaaDoorW.PrintWords Go.Proofs.YtmlkkpkaaicobaaDoorW.PrintLast Go.Proofs.YtmlkkpkaaicobaaDoor
set_option linter.unusedVariables false
set_option maxRecDepth 100000
def G63 (x : S63) : Prop := ((Lit.int .i64 x.f0).wf = true) ∧ ((Lit.int .i64 x.f1).wf = true)
theorem o63 : Opens.Opens Tryd.prog k63 63 G63 := Opens.Opens.mono (Opens.opens_struct (gi := (fun p => ⟨p.1, p.2⟩)) Tryd.underlying63 (by kernel_rfl) (fun _ => rfl) (Opens.opensF_cons (by kernel_rfl) (Opens.opens_int (ik := .i64) Tryd.underlying3) (Opens.opensF_one (by kernel_rfl) (Opens.opens_int (ik := .i64) Tryd.underlying3)))) (fun x h => h)
end Go.Proofs.YtmlkkpkaaicobaaDoor.E
