import Derived.Test.YtgdijfhdpgdanaaGreatDoorKProductBehindsG9
import Derived.Test.YtgdijfhdpgdanaaGreatDoorKProductBehindsG4
namespace Go.Proofs.YtgdijfhdpgdanaaGreatDoor.B
open Go.Proofs.YtgdijfhdpgdanaaGreatDoor.Al
open Go.Proofs.YtgdijfhdpgdanaaGreatDoorW.PrintWords Go.Proofs.YtgdijfhdpgdanaaGreatDoor.Sq Go.RowKit Go.Proofs.YtgdijfhdpgdanaaGreatDoorW.PrintLast Go.Proofs.YtgdijfhdpgdanaaGreatDoor
set_option linter.unusedVariables false
set_option maxRecDepth 100000
def G113 (x:S113):Prop:=(x.f0.size ≤ 140737488351232)∧((Lit.int .i64 x.f1).wf = true)∧((Lit.int .i64 x.f2).wf = true)∧((Lit.int .i64 x.f3).wf = true)
theorem o113:Opens.Opens Tryz.prog k113 113 G113:=Opens.Opens.mono (Opens.opens_struct (gi:=(fun p=>⟨p.1,p.2.1,p.2.2.1,p.2.2.2⟩)) Tryz.underlying113 (by kernel_rfl) (fun _=>rfl) (Opens.opensF_cons (by kernel_rfl) (Opens.opens_string Tryz.underlying9) (Opens.opensF_cons (by kernel_rfl) (Opens.opens_int (ik:=.i64) Tryz.underlying3) (Opens.opensF_cons (by kernel_rfl) (Opens.opens_int (ik:=.i64) Tryz.underlying3) (Opens.opensF_one (by kernel_rfl) (Opens.opens_int (ik:=.i64) Tryz.underlying3)))))) (fun x h=>h)
def G96 (x:S96):Prop:=((Lit.int .i64 x.f0).wf = true)∧((Lit.int .i64 x.f1).wf = true)
theorem o96:Opens.Opens Tryz.prog k96 96 G96:=Opens.Opens.mono (Opens.opens_struct (gi:=(fun p=>⟨p.1,p.2⟩)) Tryz.underlying96 (by kernel_rfl) (fun _=>rfl) (Opens.opensF_cons (by kernel_rfl) (Opens.opens_int (ik:=.i64) Tryz.underlying3) (Opens.opensF_one (by kernel_rfl) (Opens.opens_int (ik:=.i64) Tryz.underlying3)))) (fun x h=>h)
def G104 (x:S104):Prop:=((Lit.int .i64 x.f0).wf = true)∧((x.f1.length * 16 ≤ 140737488351232∧∀ zxf1 ∈ x.f1,G96 zxf1))
theorem o104:Opens.Opens Tryz.prog k104 104 G104:=Opens.Opens.mono (Opens.opens_struct (gi:=(fun p=>⟨p.1,p.2⟩)) Tryz.underlying104 (by kernel_rfl) (fun _=>rfl) (Opens.opensF_cons (by kernel_rfl) (Opens.opens_int (ik:=.i64) Tryz.underlying3) (Opens.opensF_one (by kernel_rfl) (Opens.opens_slice Tryz.underlying27 (by kernel_rfl) (by kernel_rfl) o96)))) (fun x h=>h)
def G102 (x:S102):Prop:=((x.f0.length * 16 ≤ 140737488351232∧∀ zxf0 ∈ x.f0,G96 zxf0))∧((x.f1.length * 32 ≤ 140737488351232∧∀ zxf1 ∈ x.f1,G104 zxf1))
theorem o102:Opens.Opens Tryz.prog k102 102 G102:=Opens.Opens.mono (Opens.opens_struct (gi:=(fun p=>⟨p.1,p.2⟩)) Tryz.underlying102 (by kernel_rfl) (fun _=>rfl) (Opens.opensF_cons (by kernel_rfl) (Opens.opens_slice Tryz.underlying27 (by kernel_rfl) (by kernel_rfl) o96) (Opens.opensF_one (by kernel_rfl) (Opens.opens_slice Tryz.underlying100 (by kernel_rfl) (by kernel_rfl) o104)))) (fun x h=>h)
def G25 (x:S25):Prop:=((x.f0.length * 40 ≤ 140737488351232∧∀ zxf0 ∈ x.f0,G113 zxf0))∧((x.f1.length * 48 ≤ 140737488351232∧∀ zxf1 ∈ x.f1,G102 zxf1))
theorem o25:Opens.Opens Tryz.prog k25 25 G25:=Opens.Opens.mono (Opens.opens_struct (gi:=(fun p=>⟨p.1,p.2⟩)) Tryz.underlying25 (by kernel_rfl) (fun _=>rfl) (Opens.opensF_cons (by kernel_rfl) (Opens.opens_slice Tryz.underlying22 (by kernel_rfl) (by kernel_rfl) o113) (Opens.opensF_one (by kernel_rfl) (Opens.opens_slice Tryz.underlying23 (by kernel_rfl) (by kernel_rfl) o102)))) (fun x h=>h)
def G29 (x:S29):Prop:=(G25 x.f0)∧((x.f1.length * 24 ≤ 140737488351232∧∀ zxf1 ∈ x.f1,(zxf1.length * 16 ≤ 140737488351232∧∀ zzxf1 ∈ zxf1,G96 zzxf1)))∧((x.f2.length * 16 ≤ 140737488351232∧∀ zxf2 ∈ x.f2,G96 zxf2))
theorem o29:Opens.Opens Tryz.prog k29 29 G29:=Opens.Opens.mono (Opens.opens_struct (gi:=(fun p=>⟨p.1,p.2.1,p.2.2⟩)) Tryz.underlying29 (by kernel_rfl) (fun _=>rfl) (Opens.opensF_cons (by kernel_rfl) o25 (Opens.opensF_cons (by kernel_rfl) (Opens.opens_slice Tryz.underlying26 (by kernel_rfl) (by kernel_rfl) (Opens.opens_slice Tryz.underlying27 (by kernel_rfl) (by kernel_rfl) o96)) (Opens.opensF_one (by kernel_rfl) (Opens.opens_slice Tryz.underlying27 (by kernel_rfl) (by kernel_rfl) o96))))) (fun x h=>h)
def G31 (x:S31):Prop:=((Lit.int .i64 x.f0).wf = true)∧((Lit.int .i64 x.f1).wf = true)
theorem o31:Opens.Opens Tryz.prog k31 31 G31:=Opens.Opens.mono (Opens.opens_struct (gi:=(fun p=>⟨p.1,p.2⟩)) Tryz.underlying31 (by kernel_rfl) (fun _=>rfl) (Opens.opensF_cons (by kernel_rfl) (Opens.opens_int (ik:=.i64) Tryz.underlying3) (Opens.opensF_one (by kernel_rfl) (Opens.opens_int (ik:=.i64) Tryz.underlying3)))) (fun x h=>h)
end Go.Proofs.YtgdijfhdpgdanaaGreatDoor.B
