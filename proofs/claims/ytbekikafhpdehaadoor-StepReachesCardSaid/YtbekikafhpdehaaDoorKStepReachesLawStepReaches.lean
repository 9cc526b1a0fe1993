import Derived.Test.YtbekikafhpdehaaDoorRows
import Derived.Test.YtbekikafhpdehaaDoorCards
import Derived.Test.YtbekikafhpdehaaDoorTie
import Derived.Test.YtbekikafhpdehaaDoorKStepReachesG5
import Derived.Test.YtbekikafhpdehaaDoorKStepReachesG46
import Derived.Test.YtbekikafhpdehaaDoorKStepReachesG42
import Derived.WalkKit
import Derived.ProofKit
import Derived.OpenShut
import Derived.ShutString
import Derived.ChangeOld
import Derived.Below
import Derived.SizedLaws
import Derived.WideShapes
import Derived.SevenTiedAt
import Derived.Lay
import Derived.LaidOnce
-- Cut by a program of this session (wip/prune.py) from a longer text: declarations that the law does not need are left out.
namespace Go.Proofs.YtbekikafhpdehaaDoor.stepReaches
open Go.Proofs.YtbekikafhpdehaaDoor.Al
open Go.Proofs.YtbekikafhpdehaaDoorW.PrintWords
open Go.Proofs.YtbekikafhpdehaaDoor.Sq
open Go.ChangeShapes Go.WideShapes Go.ChangeAt Go.RowKit Go.Proofs.YtbekikafhpdehaaDoor.T
open Go.ChangeMaps (open_string shut_string)
set_option linter.unusedVariables false
theorem own:ownKnob Tryd.prog.godebug = none:=by kernel_rfl
theorem laidOut:laidOutB Tryd.prog = true:=by kernel_rfl
set_option maxRecDepth 100000 in
theorem lifted (os:Os) (started:os.Started) (H:Type) (enc:TypeId × Value → H) :
  ReturnsInHanded {} Tryd.checked os 5 .any (fun w args => (Rows.stepReachesSpec.pre enc Tryd.prog Tryd.f5 [] false w args ∧ laidMetH Tryd.prog [("foretell/polish.parts", Rows.laid_foretell_polish_parts)] w) ∧ sizedMet enc Tryd.prog Tryd.f5 (OpenSpec.ofChange Rows.stepReachesSpec) false w args)
   (Rows.stepReachesSpec.post enc Tryd.prog Tryd.f5 false true false false):=by
 refine returnsInHanded_of_change_and (C := Tryd.checked) (X := fun w _ => laidMetH Tryd.prog [("foretell/polish.parts", Rows.laid_foretell_polish_parts)] w) (fun _ _ _ hh h => h.of_heap hh) own started (by kernel_rfl) Tryd.func5
  (ChangeSpec.witness_shaped (enc := enc) (C := Tryd.checked) (os := os) (X := fun w _ => laidMetH Tryd.prog [("foretell/polish.parts", Rows.laid_foretell_polish_parts)] w) false (World.laidAll Tryd.prog os [("foretell/polish.parts", Rows.laid_foretell_polish_parts)]) #[.agg #[.slice none 0 0, .slice none 0 0]] 8 (World.laidAll_os _ _ _)
   (World.shaped_of_ZipB (by kernel_rfl) (by kernel_rfl)) (by kernel_rfl) (by kernel_rfl) (by kernel_rfl)
   (by rw [MakeChecks.laidMetH_plain _ _ _ (by kernel_rfl)];exact laidMet_laidAll _ (by kernel_rfl) (by kernel_rfl))) ?_
 intro W base args ds gs before hval0 hW hcnd hsz0 hL0 _;rw [MakeChecks.laidMetH_plain _ _ _ (by kernel_rfl)] at hL0;have hLG:LaidG W:=laid_of hL0;have hsz:(DataW.weightsEach Tryd.prog (Tryd.f5.params.toList ++ Rows.stepReachesSpec.plain.varTypes Tryd.prog) (ds ++ gs)).all (· ≤ reachBytes) = true:=hsz0;have hval:∀ (j:Nat) t v,Tryd.f5.params[j]? = some t → args[j]? = some v → Value.okWide Tryd.prog W .any base t v:=hval0;have hW':=hW;obtain ⟨p,q,hA0,hV,rfl,hfz,hnd⟩:=hW;have hA:DataW.TrodAll enc Tryd.prog W 0 (fun _=>true) true Tryd.f5.params.toList args.toList ds p:=hA0;rw [Tryd.params5] at hA hval hsz;obtain ⟨v0,vs0,d0,ds0,p0,q0,hargs,rfl,rfl,h0,r0⟩:=trodAll_cons hA;obtain ⟨rfl,rfl,rfl⟩:=trodAll_nil r0;obtain rfl:args = #[v0]:=by cases args;simp_all
 obtain ⟨rfl,rfl⟩:=trodVars_none hV;have k0:=h0;have lt0:∀ x ∈ p0,x.block < W.heap.size:=by obtain ⟨m,hm⟩:=k0;exact DataW.trod_lt m _ _ _ hm
 obtain ⟨cs0,rfl,hcs0⟩:=okWide_struct Tryd.underlying25 (hval 0 25 v0 rfl rfl);obtain ⟨x0,K0,good0⟩:=Opens.opened o25 h0 hsz (j:=0) rfl rfl;obtain ⟨_,_,hE,⟨A0_0,c0_0,rfl,hc0_0,hr0_0⟩,⟨A0_1,c0_1,rfl,hc0_1,hr0_1⟩⟩:=K0;obtain rfl:cs0 = #[.slice A0_0 x0.f0.length c0_0,.slice A0_1 x0.f1.length c0_1]:=by cases cs0;simpa [Value.cells] using hE
 clear hE;obtain ⟨k,hk⟩:=Pure.StepReaches x0 good0;refine (foretelllaw_StepReaches.calls k _ _ x0.f0 _ _ x0.f1 true W hr0_0 hc0_0 hr0_1 hc0_1 hLG hk).mono fun e W' ⟨he,bel0⟩=>?_;have bel:Below W.heap.size W W':=bel0;subst he;exact ⟨_,rfl,_,_,_,[],_,[],hW',trodAll_mk1 (shut_bool Tryd.underlying4 _),(trodAll_cons_mk (Below.trod laidOut (by kernel_rfl) (zP (by kernel_rfl)) k0 bel lt0) trodAll_mk0),rfl,bel.frame _,fun h=>by cases h⟩
theorem over:Rows.stepReachesRow.holds Tryd.pinned (OpenSpec.ofChange Rows.stepReachesSpec) :=
 OpenClaim.holds_of_wide 5 Tryd.f5 rfl rfl rfl rfl rfl rfl rfl ⟨rfl,rfl,rfl,rfl,rfl⟩ rfl rfl rfl rfl rfl (by kernel_rfl) Tryd.func5 (by kernel_rfl)
  (zP (by kernel_rfl)) (by unfold Func.isWrapper;first|(rw [if_pos (by decide +kernel)];kernel_rfl)|(rw [if_neg (by decide +kernel)];exact ⟨rfl,rfl⟩))
  (fun os started H enc _=>lifted os started H enc)
theorem proved:Rows.StepReachesCardSaid :=
 Claim7.holds_tied_plain_at .later [] [.data] true (true, "c090c1b80af3cde8bf26bb1ac25185892f8989c2ab8ebadc420cf70ceec22689") true
  over (fun _ h=>by cases h) (by kernel_rfl) (fun _ h=>by cases h) stepReaches_row_tie rfl ⟨rfl,rfl⟩ (by kernel_rfl) rfl
  (fun f fn hf hfn=>by
   obtain rfl : f = 5 := Option.some.inj ((show Tryd.prog.funcNamed "foretell/foretelllaw.StepReaches" = some 5 by kernel_rfl).symm.trans hf) |>.symm
   obtain rfl:fn = Tryd.f5:=(Option.some.inj (Tryd.func5.symm.trans hfn)).symm
   exact ⟨by kernel_rfl,fun j t ht=>by
    rw [Tryd.params5] at ht
    have hm:t ∈ [25]:=by simpa using Array.mem_of_getElem? ht
    have hall:([25].all fun u=>!Tryd.prog.wantsStandIn u) = true:=by kernel_rfl
    exact (show Tryd.prog.wantsStandIn t = false by simpa using List.all_eq_true.1 hall t hm)⟩)
  (by kernel_rfl)
#print axioms proved
end Go.Proofs.YtbekikafhpdehaaDoor.stepReaches
namespace Go.Proofs.YtbekikafhpdehaaDoor
theorem stepReaches_holds:Rows.StepReachesCardSaid:=stepReaches.proved
end Go.Proofs.YtbekikafhpdehaaDoor
