import Derived.Test.YthffpjkkmkjplaaDoorKWordClaimsG7
import Derived.Test.YthffpjkkmkjplaaDoorKWordClaimsG4
-- Cut by a program of this session (wip/prune.py) from a longer text: declarations that the law does not need are left out.
namespace Go.Proofs.YthffpjkkmkjplaaDoor.Q
open Go.RowKit Go.Proofs.YthffpjkkmkjplaaDoorW.PrintWords Go.Proofs.YthffpjkkmkjplaaDoorW.PrintLast Go.Proofs.YthffpjkkmkjplaaDoor
set_option linter.unusedVariables false
set_option maxRecDepth 100000
def G65 (x : S65) : Prop := ((Lit.int .i64 x.f0).wf = true) ∧ ((Lit.int .i64 x.f1).wf = true)
theorem o65 : Opens.Opens Tryd.prog k65 65 G65 := Opens.Opens.mono (Opens.opens_struct (gi := (fun p => ⟨p.1, p.2⟩)) Tryd.underlying65 (by kernel_rfl) (fun _ => rfl) (Opens.opensF_cons (by kernel_rfl) (Opens.opens_int (ik := .i64) Tryd.underlying3) (Opens.opensF_one (by kernel_rfl) (Opens.opens_int (ik := .i64) Tryd.underlying3)))) (fun x h => h)
def G25 (x : S25) : Prop := ((x.f0.length * 24 ≤ 140737488351232 ∧ ∀ zxf0 ∈ x.f0, (zxf0.length * 1 ≤ 140737488351232 ∧ ∀ zzxf0 ∈ zxf0, True))) ∧ ((x.f1.length * 24 ≤ 140737488351232 ∧ ∀ zxf1 ∈ x.f1, (zxf1.length * 1 ≤ 140737488351232 ∧ ∀ zzxf1 ∈ zxf1, True)))
theorem o25 : Opens.Opens Tryd.prog k25 25 G25 := Opens.Opens.mono (Opens.opens_struct (gi := (fun p => ⟨p.1, p.2⟩)) Tryd.underlying25 (by kernel_rfl) (fun _ => rfl) (Opens.opensF_cons (by kernel_rfl) (Opens.opens_slice Tryd.underlying23 (by kernel_rfl) (by kernel_rfl) (Opens.opens_slice Tryd.underlying27 (by kernel_rfl) (by kernel_rfl) (Opens.opens_bool Tryd.underlying4))) (Opens.opensF_one (by kernel_rfl) (Opens.opens_slice Tryd.underlying23 (by kernel_rfl) (by kernel_rfl) (Opens.opens_slice Tryd.underlying27 (by kernel_rfl) (by kernel_rfl) (Opens.opens_bool Tryd.underlying4)))))) (fun x h => h)
end Go.Proofs.YthffpjkkmkjplaaDoor.Q
