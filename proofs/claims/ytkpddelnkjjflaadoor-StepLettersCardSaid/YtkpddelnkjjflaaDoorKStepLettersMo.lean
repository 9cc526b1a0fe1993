-- Cut by a program of this session (wip/prune.py) from a longer text: declarations that the law does not need are left out.
import Derived.Test.YtkpddelnkjjflaaDoorKStepLettersMx0
import Derived.Test.YtkpddelnkjjflaaDoorKStepLettersOpens
namespace Go.Proofs.YtkpddelnkjjflaaDoor.M
open Go.Proofs.YtkpddelnkjjflaaDoor.Al
open Go.Proofs.YtkpddelnkjjflaaDoorW.PrintWords
open Go.RowKit Go.Proofs.YtkpddelnkjjflaaDoorW.PrintWords Go.Proofs.YtkpddelnkjjflaaDoorW.PrintLast Go.Proofs.YtkpddelnkjjflaaDoor
set_option linter.unusedVariables false
set_option maxRecDepth 100000
def G74 (x:S74):Prop:=(x.f0.size ≤ 140737488351232)∧((Lit.int .i64 x.f1).wf = true)∧((Lit.int .i64 x.f2).wf = true)∧((Lit.int .i64 x.f3).wf = true)
theorem o74:Opens.Opens Tryd.prog k74 74 G74:=Opens.Opens.mono (Opens.opens_struct (gi:=(fun p=>⟨p.1,p.2.1,p.2.2.1,p.2.2.2⟩)) Tryd.underlying74 (by kernel_rfl) (fun _=>rfl) (Opens.opensF_cons (by kernel_rfl) (Opens.opens_string Tryd.underlying9) (Opens.opensF_cons (by kernel_rfl) (Opens.opens_int (ik:=.i64) Tryd.underlying3) (Opens.opensF_cons (by kernel_rfl) (Opens.opens_int (ik:=.i64) Tryd.underlying3) (Opens.opensF_one (by kernel_rfl) (Opens.opens_int (ik:=.i64) Tryd.underlying3)))))) (fun x h=>h)
def G94 (x:S94):Prop:=((Lit.int .i64 x.f0).wf = true)∧((Lit.int .i64 x.f1).wf = true)
theorem o94:Opens.Opens Tryd.prog k94 94 G94:=Opens.Opens.mono (Opens.opens_struct (gi:=(fun p=>⟨p.1,p.2⟩)) Tryd.underlying94 (by kernel_rfl) (fun _=>rfl) (Opens.opensF_cons (by kernel_rfl) (Opens.opens_int (ik:=.i64) Tryd.underlying3) (Opens.opensF_one (by kernel_rfl) (Opens.opens_int (ik:=.i64) Tryd.underlying3)))) (fun x h=>h)
def G70 (x:S70):Prop:=((Lit.int .i64 x.f0).wf = true)∧((x.f1.length * 16 ≤ 140737488351232∧∀ zxf1 ∈ x.f1,G94 zxf1))
theorem o70:Opens.Opens Tryd.prog k70 70 G70:=Opens.Opens.mono (Opens.opens_struct (gi:=(fun p=>⟨p.1,p.2⟩)) Tryd.underlying70 (by kernel_rfl) (fun _=>rfl) (Opens.opensF_cons (by kernel_rfl) (Opens.opens_int (ik:=.i64) Tryd.underlying3) (Opens.opensF_one (by kernel_rfl) (Opens.opens_slice Tryd.underlying45 (by kernel_rfl) (by kernel_rfl) o94)))) (fun x h=>h)
def G68 (x:S68):Prop:=((x.f0.length * 16 ≤ 140737488351232∧∀ zxf0 ∈ x.f0,G94 zxf0))∧((x.f1.length * 32 ≤ 140737488351232∧∀ zxf1 ∈ x.f1,G70 zxf1))
theorem o68:Opens.Opens Tryd.prog k68 68 G68:=Opens.Opens.mono (Opens.opens_struct (gi:=(fun p=>⟨p.1,p.2⟩)) Tryd.underlying68 (by kernel_rfl) (fun _=>rfl) (Opens.opensF_cons (by kernel_rfl) (Opens.opens_slice Tryd.underlying45 (by kernel_rfl) (by kernel_rfl) o94) (Opens.opensF_one (by kernel_rfl) (Opens.opens_slice Tryd.underlying66 (by kernel_rfl) (by kernel_rfl) o70)))) (fun x h=>h)
def G25 (x:S25):Prop:=((x.f0.length * 40 ≤ 140737488351232∧∀ zxf0 ∈ x.f0,G74 zxf0))∧((x.f1.length * 48 ≤ 140737488351232∧∀ zxf1 ∈ x.f1,G68 zxf1))
theorem o25:Opens.Opens Tryd.prog k25 25 G25:=Opens.Opens.mono (Opens.opens_struct (gi:=(fun p=>⟨p.1,p.2⟩)) Tryd.underlying25 (by kernel_rfl) (fun _=>rfl) (Opens.opensF_cons (by kernel_rfl) (Opens.opens_slice Tryd.underlying22 (by kernel_rfl) (by kernel_rfl) o74) (Opens.opensF_one (by kernel_rfl) (Opens.opens_slice Tryd.underlying23 (by kernel_rfl) (by kernel_rfl) o68)))) (fun x h=>h)
end Go.Proofs.YtkpddelnkjjflaaDoor.M
