import Derived.Test.YtbekikafhpdehaaDoorKStepReachesG8
import Derived.Test.YtbekikafhpdehaaDoorKStepReachesG4
namespace Go.Proofs.YtbekikafhpdehaaDoor.T
open Go.Proofs.YtbekikafhpdehaaDoor.Al
open Go.Proofs.YtbekikafhpdehaaDoorW.PrintWords
open Go.Proofs.YtbekikafhpdehaaDoor.Sq
open Go.RowKit Go.Proofs.YtbekikafhpdehaaDoorW.PrintWords Go.Proofs.YtbekikafhpdehaaDoorW.PrintLast Go.Proofs.YtbekikafhpdehaaDoor
set_option linter.unusedVariables false
set_option maxRecDepth 100000
def G58 (x:S58):Prop:=(x.f0.size ≤ 140737488351232)∧((Lit.int .i64 x.f1).wf = true)∧((Lit.int .i64 x.f2).wf = true)∧((Lit.int .i64 x.f3).wf = true)
theorem o58:Opens.Opens Tryd.prog k58 58 G58:=Opens.Opens.mono (Opens.opens_struct (gi:=(fun p=>⟨p.1,p.2.1,p.2.2.1,p.2.2.2⟩)) Tryd.underlying58 (by kernel_rfl) (fun _=>rfl) (Opens.opensF_cons (by kernel_rfl) (Opens.opens_string Tryd.underlying9) (Opens.opensF_cons (by kernel_rfl) (Opens.opens_int (ik:=.i64) Tryd.underlying3) (Opens.opensF_cons (by kernel_rfl) (Opens.opens_int (ik:=.i64) Tryd.underlying3) (Opens.opensF_one (by kernel_rfl) (Opens.opens_int (ik:=.i64) Tryd.underlying3)))))) (fun x h=>h)
def G73 (x:S73):Prop:=((Lit.int .i64 x.f0).wf = true)∧((Lit.int .i64 x.f1).wf = true)
theorem o73:Opens.Opens Tryd.prog k73 73 G73:=Opens.Opens.mono (Opens.opens_struct (gi:=(fun p=>⟨p.1,p.2⟩)) Tryd.underlying73 (by kernel_rfl) (fun _=>rfl) (Opens.opensF_cons (by kernel_rfl) (Opens.opens_int (ik:=.i64) Tryd.underlying3) (Opens.opensF_one (by kernel_rfl) (Opens.opens_int (ik:=.i64) Tryd.underlying3)))) (fun x h=>h)
def G51 (x:S51):Prop:=((Lit.int .i64 x.f0).wf = true)∧((x.f1.length * 16 ≤ 140737488351232∧∀ zxf1 ∈ x.f1,G73 zxf1))
theorem o51:Opens.Opens Tryd.prog k51 51 G51:=Opens.Opens.mono (Opens.opens_struct (gi:=(fun p=>⟨p.1,p.2⟩)) Tryd.underlying51 (by kernel_rfl) (fun _=>rfl) (Opens.opensF_cons (by kernel_rfl) (Opens.opens_int (ik:=.i64) Tryd.underlying3) (Opens.opensF_one (by kernel_rfl) (Opens.opens_slice Tryd.underlying45 (by kernel_rfl) (by kernel_rfl) o73)))) (fun x h=>h)
def G49 (x:S49):Prop:=((x.f0.length * 16 ≤ 140737488351232∧∀ zxf0 ∈ x.f0,G73 zxf0))∧((x.f1.length * 32 ≤ 140737488351232∧∀ zxf1 ∈ x.f1,G51 zxf1))
theorem o49:Opens.Opens Tryd.prog k49 49 G49:=Opens.Opens.mono (Opens.opens_struct (gi:=(fun p=>⟨p.1,p.2⟩)) Tryd.underlying49 (by kernel_rfl) (fun _=>rfl) (Opens.opensF_cons (by kernel_rfl) (Opens.opens_slice Tryd.underlying45 (by kernel_rfl) (by kernel_rfl) o73) (Opens.opensF_one (by kernel_rfl) (Opens.opens_slice Tryd.underlying47 (by kernel_rfl) (by kernel_rfl) o51)))) (fun x h=>h)
def G25 (x:S25):Prop:=((x.f0.length * 40 ≤ 140737488351232∧∀ zxf0 ∈ x.f0,G58 zxf0))∧((x.f1.length * 48 ≤ 140737488351232∧∀ zxf1 ∈ x.f1,G49 zxf1))
theorem o25:Opens.Opens Tryd.prog k25 25 G25:=Opens.Opens.mono (Opens.opens_struct (gi:=(fun p=>⟨p.1,p.2⟩)) Tryd.underlying25 (by kernel_rfl) (fun _=>rfl) (Opens.opensF_cons (by kernel_rfl) (Opens.opens_slice Tryd.underlying22 (by kernel_rfl) (by kernel_rfl) o58) (Opens.opensF_one (by kernel_rfl) (Opens.opens_slice Tryd.underlying23 (by kernel_rfl) (by kernel_rfl) o49)))) (fun x h=>h)
end Go.Proofs.YtbekikafhpdehaaDoor.T
