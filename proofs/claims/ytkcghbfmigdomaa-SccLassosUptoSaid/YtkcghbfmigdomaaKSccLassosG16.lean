import Derived.Test.YtkcghbfmigdomaaKSccLassosG10
import Derived.Test.YtkcghbfmigdomaaKSccLassosG7
namespace Go.Proofs.Ytkcghbfmigdomaa.Q
open Go.Proofs.Ytkcghbfmigdomaa.Al
open Go.Proofs.YtkcghbfmigdomaaW.PrintWords Go.Proofs.Ytkcghbfmigdomaa.Sq Go.RowKit Go.Proofs.YtkcghbfmigdomaaW.PrintLast Go.Proofs.Ytkcghbfmigdomaa
set_option linter.unusedVariables false
set_option maxRecDepth 100000
def G63 (x:S63):Prop:=((Lit.int .i64 x.f0).wf = true)∧((Lit.int .i64 x.f1).wf = true)
theorem o63:Opens.Opens Try.prog k63 63 G63:=Opens.Opens.mono (Opens.opens_struct (gi:=(fun p=>⟨p.1,p.2⟩)) Try.underlying63 (by kernel_rfl) (fun _=>rfl) (Opens.opensF_cons (by kernel_rfl) (Opens.opens_int (ik:=.i64) Try.underlying3) (Opens.opensF_one (by kernel_rfl) (Opens.opens_int (ik:=.i64) Try.underlying3)))) (fun x h=>h)
def G26 (x:S26):Prop:=((x.f0.length * 16 ≤ 140737488351232∧∀ zxf0 ∈ x.f0,G63 zxf0))∧((Lit.int .i64 x.f1).wf = true)∧((x.f2.length * 24 ≤ 140737488351232∧∀ zxf2 ∈ x.f2,(zxf2.length * 8 ≤ 140737488351232∧∀ zzxf2 ∈ zxf2,(Lit.int .i64 zzxf2).wf = true)))∧((x.f3.length * 8 ≤ 140737488351232∧∀ zxf3 ∈ x.f3,(Lit.int .i64 zxf3).wf = true))∧((Lit.int .i64 x.f4).wf = true)
theorem o26:Opens.Opens Try.prog k26 26 G26:=Opens.Opens.mono (Opens.opens_struct (gi:=(fun p=>⟨p.1,p.2.1,p.2.2.1,p.2.2.2.1,p.2.2.2.2⟩)) Try.underlying26 (by kernel_rfl) (fun _=>rfl) (Opens.opensF_cons (by kernel_rfl) (Opens.opens_slice Try.underlying22 (by kernel_rfl) (by kernel_rfl) o63) (Opens.opensF_cons (by kernel_rfl) (Opens.opens_int (ik:=.i64) Try.underlying3) (Opens.opensF_cons (by kernel_rfl) (Opens.opens_slice Try.underlying23 (by kernel_rfl) (by kernel_rfl) (Opens.opens_slice Try.underlying24 (by kernel_rfl) (by kernel_rfl) (Opens.opens_int (ik:=.i64) Try.underlying3))) (Opens.opensF_cons (by kernel_rfl) (Opens.opens_slice Try.underlying24 (by kernel_rfl) (by kernel_rfl) (Opens.opens_int (ik:=.i64) Try.underlying3)) (Opens.opensF_one (by kernel_rfl) (Opens.opens_int (ik:=.i64) Try.underlying3))))))) (fun x h=>h)
end Go.Proofs.Ytkcghbfmigdomaa.Q
