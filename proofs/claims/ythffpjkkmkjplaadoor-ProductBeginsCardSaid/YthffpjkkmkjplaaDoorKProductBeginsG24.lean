import Derived.Test.YthffpjkkmkjplaaDoorKProductBeginsG9
import Derived.Test.YthffpjkkmkjplaaDoorKProductBeginsG4
namespace Go.Proofs.YthffpjkkmkjplaaDoor.S
open Go.Proofs.YthffpjkkmkjplaaDoor.Al
open Go.Proofs.YthffpjkkmkjplaaDoorW.PrintWords
open Go.Proofs.YthffpjkkmkjplaaDoor.Sq
open Go.RowKit Go.Proofs.YthffpjkkmkjplaaDoorW.PrintWords Go.Proofs.YthffpjkkmkjplaaDoorW.PrintLast Go.Proofs.YthffpjkkmkjplaaDoor
set_option linter.unusedVariables false
set_option maxRecDepth 100000
def G86 (x:S86):Prop:=(x.f0.size ≤ 140737488351232)∧((Lit.int .i64 x.f1).wf = true)∧((Lit.int .i64 x.f2).wf = true)∧((Lit.int .i64 x.f3).wf = true)
theorem o86:Opens.Opens Tryd.prog k86 86 G86:=Opens.Opens.mono (Opens.opens_struct (gi:=(fun p=>⟨p.1,p.2.1,p.2.2.1,p.2.2.2⟩)) Tryd.underlying86 (by kernel_rfl) (fun _=>rfl) (Opens.opensF_cons (by kernel_rfl) (Opens.opens_string Tryd.underlying9) (Opens.opensF_cons (by kernel_rfl) (Opens.opens_int (ik:=.i64) Tryd.underlying3) (Opens.opensF_cons (by kernel_rfl) (Opens.opens_int (ik:=.i64) Tryd.underlying3) (Opens.opensF_one (by kernel_rfl) (Opens.opens_int (ik:=.i64) Tryd.underlying3)))))) (fun x h=>h)
def G65 (x:S65):Prop:=((Lit.int .i64 x.f0).wf = true)∧((Lit.int .i64 x.f1).wf = true)
theorem o65:Opens.Opens Tryd.prog k65 65 G65:=Opens.Opens.mono (Opens.opens_struct (gi:=(fun p=>⟨p.1,p.2⟩)) Tryd.underlying65 (by kernel_rfl) (fun _=>rfl) (Opens.opensF_cons (by kernel_rfl) (Opens.opens_int (ik:=.i64) Tryd.underlying3) (Opens.opensF_one (by kernel_rfl) (Opens.opens_int (ik:=.i64) Tryd.underlying3)))) (fun x h=>h)
def G95 (x:S95):Prop:=((Lit.int .i64 x.f0).wf = true)∧((x.f1.length * 16 ≤ 140737488351232∧∀ zxf1 ∈ x.f1,G65 zxf1))
theorem o95:Opens.Opens Tryd.prog k95 95 G95:=Opens.Opens.mono (Opens.opens_struct (gi:=(fun p=>⟨p.1,p.2⟩)) Tryd.underlying95 (by kernel_rfl) (fun _=>rfl) (Opens.opensF_cons (by kernel_rfl) (Opens.opens_int (ik:=.i64) Tryd.underlying3) (Opens.opensF_one (by kernel_rfl) (Opens.opens_slice Tryd.underlying22 (by kernel_rfl) (by kernel_rfl) o65)))) (fun x h=>h)
def G93 (x:S93):Prop:=((x.f0.length * 16 ≤ 140737488351232∧∀ zxf0 ∈ x.f0,G65 zxf0))∧((x.f1.length * 32 ≤ 140737488351232∧∀ zxf1 ∈ x.f1,G95 zxf1))
theorem o93:Opens.Opens Tryd.prog k93 93 G93:=Opens.Opens.mono (Opens.opens_struct (gi:=(fun p=>⟨p.1,p.2⟩)) Tryd.underlying93 (by kernel_rfl) (fun _=>rfl) (Opens.opensF_cons (by kernel_rfl) (Opens.opens_slice Tryd.underlying22 (by kernel_rfl) (by kernel_rfl) o65) (Opens.opensF_one (by kernel_rfl) (Opens.opens_slice Tryd.underlying91 (by kernel_rfl) (by kernel_rfl) o95)))) (fun x h=>h)
def G44 (x:S44):Prop:=((x.f0.length * 40 ≤ 140737488351232∧∀ zxf0 ∈ x.f0,G86 zxf0))∧((x.f1.length * 48 ≤ 140737488351232∧∀ zxf1 ∈ x.f1,G93 zxf1))
theorem o44:Opens.Opens Tryd.prog k44 44 G44:=Opens.Opens.mono (Opens.opens_struct (gi:=(fun p=>⟨p.1,p.2⟩)) Tryd.underlying44 (by kernel_rfl) (fun _=>rfl) (Opens.opensF_cons (by kernel_rfl) (Opens.opens_slice Tryd.underlying41 (by kernel_rfl) (by kernel_rfl) o86) (Opens.opensF_one (by kernel_rfl) (Opens.opens_slice Tryd.underlying42 (by kernel_rfl) (by kernel_rfl) o93)))) (fun x h=>h)
def G47 (x:S47):Prop:=(G44 x.f0)∧((x.f1.length * 24 ≤ 140737488351232∧∀ zxf1 ∈ x.f1,(zxf1.length * 16 ≤ 140737488351232∧∀ zzxf1 ∈ zxf1,G65 zzxf1)))∧((x.f2.length * 16 ≤ 140737488351232∧∀ zxf2 ∈ x.f2,G65 zxf2))
theorem o47:Opens.Opens Tryd.prog k47 47 G47:=Opens.Opens.mono (Opens.opens_struct (gi:=(fun p=>⟨p.1,p.2.1,p.2.2⟩)) Tryd.underlying47 (by kernel_rfl) (fun _=>rfl) (Opens.opensF_cons (by kernel_rfl) o44 (Opens.opensF_cons (by kernel_rfl) (Opens.opens_slice Tryd.underlying45 (by kernel_rfl) (by kernel_rfl) (Opens.opens_slice Tryd.underlying22 (by kernel_rfl) (by kernel_rfl) o65)) (Opens.opensF_one (by kernel_rfl) (Opens.opens_slice Tryd.underlying22 (by kernel_rfl) (by kernel_rfl) o65))))) (fun x h=>h)
end Go.Proofs.YthffpjkkmkjplaaDoor.S
