import Derived.Test.YtgdijfhdpgdanaaGreatDoorCards
import Derived.Test.YtgdijfhdpgdanaaGreatDoorTie
import Derived.OpenShut
import Derived.ShutString
import Derived.ChangeOld
import Derived.SevenTiedAt
import Derived.Test.YtgdijfhdpgdanaaGreatDoorKProductBehindsG5
import Derived.Test.YtgdijfhdpgdanaaGreatDoorKProductBehindsG49
-- Cut by a program of this session (wip/prune.py) from a longer text: declarations that the law does not need are left out.
namespace Go.Proofs.YtgdijfhdpgdanaaGreatDoor.productBehinds
open Go.Proofs.YtgdijfhdpgdanaaGreatDoor.Al
open Go.Proofs.YtgdijfhdpgdanaaGreatDoorW.PrintWords
open Go.Proofs.YtgdijfhdpgdanaaGreatDoor.Sq
open Go.ChangeShapes Go.WideShapes Go.ChangeAt Go.RowKit Go.Proofs.YtgdijfhdpgdanaaGreatDoor.B
open Go.ChangeMaps (open_string shut_string)
set_option linter.unusedVariables false
theorem own:ownKnob Tryz.prog.godebug = none:=by kernel_rfl
theorem laidOut:laidOutB Tryz.prog = true:=by kernel_rfl
set_option maxRecDepth 100000 in
theorem lifted (os:Os) (started:os.Started) (H:Type) (enc:TypeId × Value → H) :
  ReturnsInHanded {} Tryz.checked os 3 .any (fun w args => (Rows.productBehindsSpec.pre enc Tryz.prog Tryz.f3 [] false w args ∧ laidMetH Tryz.prog [("foretell/polish.parts", Rows.laid_foretell_polish_parts)] w) ∧ sizedMet enc Tryz.prog Tryz.f3 (OpenSpec.ofChange Rows.productBehindsSpec) false w args)
   (Rows.productBehindsSpec.post enc Tryz.prog Tryz.f3 false true false false):=by
 refine returnsInHanded_of_change_and (C := Tryz.checked) (X := fun w _ => laidMetH Tryz.prog [("foretell/polish.parts", Rows.laid_foretell_polish_parts)] w) (fun _ _ _ hh h => h.of_heap hh) own started (by kernel_rfl) Tryz.func3
  (ChangeSpec.witness_shaped (enc := enc) (C := Tryz.checked) (os := os) (X := fun w _ => laidMetH Tryz.prog [("foretell/polish.parts", Rows.laid_foretell_polish_parts)] w) false (World.laidAll Tryz.prog os [("foretell/polish.parts", Rows.laid_foretell_polish_parts)]) #[.agg #[.slice none 0 0, .slice none 0 0, .slice none 0 0, .slice none 0 0], .agg #[.int .i64 0, .int .i64 0]] 8 (World.laidAll_os _ _ _)
   (World.shaped_of_ZipB (by kernel_rfl) (by kernel_rfl)) (by kernel_rfl) (by kernel_rfl) (by kernel_rfl)
   (by rw [MakeChecks.laidMetH_plain _ _ _ (by kernel_rfl)];exact laidMet_laidAll _ (by kernel_rfl) (by kernel_rfl))) ?_
 intro W base args ds gs before hval0 hW hcnd hsz0 hL0 _;rw [MakeChecks.laidMetH_plain _ _ _ (by kernel_rfl)] at hL0;have hLG:LaidG W:=laid_of hL0;have hsz:(DataW.weightsEach Tryz.prog (Tryz.f3.params.toList ++ Rows.productBehindsSpec.plain.varTypes Tryz.prog) (ds ++ gs)).all (· ≤ reachBytes) = true:=hsz0;have hval:∀ (j:Nat) t v,Tryz.f3.params[j]? = some t → args[j]? = some v → Value.okWide Tryz.prog W .any base t v:=hval0;have hW':=hW;obtain ⟨p,q,hA0,hV,rfl,hfz,hnd⟩:=hW;have hA:DataW.TrodAll enc Tryz.prog W 0 (fun _=>true) true Tryz.f3.params.toList args.toList ds p:=hA0;rw [Tryz.params3] at hA hval hsz;obtain ⟨v0,vs0,d0,ds0,p0,q0,hargs,rfl,rfl,h0,r0⟩:=trodAll_cons hA;obtain ⟨v1,vs1,d1,ds1,p1,q1,rfl,rfl,rfl,h1,r1⟩:=trodAll_cons r0;obtain ⟨rfl,rfl,rfl⟩:=trodAll_nil r1;obtain rfl:args = #[v0,v1]:=by cases args;simp_all
 obtain ⟨rfl,rfl⟩:=trodVars_none hV;have k0:=h0;have lt0:∀ x ∈ p0,x.block < W.heap.size:=by obtain ⟨m,hm⟩:=k0;exact DataW.trod_lt m _ _ _ hm
 obtain ⟨cs0,rfl,hcs0⟩:=okWide_struct Tryz.underlying29 (hval 0 29 v0 rfl rfl);obtain ⟨x0,K0,good0⟩:=Opens.opened o29 h0 hsz (j:=0) rfl rfl;obtain ⟨_,_,hE,⟨_,_,rfl,⟨A0_0,c0_0,rfl,hc0_0,hr0_0⟩,⟨A0_1,c0_1,rfl,hc0_1,hr0_1⟩⟩,⟨_,_,rfl,⟨A0_2,c0_2,rfl,hc0_2,hr0_2⟩,⟨A0_3,c0_3,rfl,hc0_3,hr0_3⟩⟩⟩:=K0;obtain rfl:cs0 = #[.slice A0_0 x0.f0.f0.length c0_0,.slice A0_1 x0.f0.f1.length c0_1,.slice A0_2 x0.f1.length c0_2,.slice A0_3 x0.f2.length c0_3]:=by cases cs0;simpa [Value.cells] using hE
 clear hE;have k1:=h1;have lt1:∀ x ∈ p1,x.block < W.heap.size:=by obtain ⟨m,hm⟩:=k1;exact DataW.trod_lt m _ _ _ hm
 obtain ⟨cs1,rfl,hcs1⟩:=okWide_struct Tryz.underlying31 (hval 1 31 v1 rfl rfl);obtain ⟨x1,K1,good1⟩:=Opens.opened o31 h1 hsz (j:=1) rfl rfl;obtain ⟨_,_,hE,rfl,rfl⟩:=K1;obtain rfl:cs1 = #[.int .i64 x1.f0,.int .i64 x1.f1]:=by cases cs1;simpa [Value.cells] using hE
 clear hE;obtain ⟨k,hk⟩:=Pure.ProductBehinds x0 x1 good0 good1;refine (zAn.calls k _ _ x0.f0.f0 _ _ x0.f0.f1 _ _ x0.f1 _ _ x0.f2 x1.f0 x1.f1 true W hr0_0 hc0_0 hr0_1 hc0_1 hr0_2 hc0_2 hr0_3 hc0_3 hLG hk).mono fun e W' ⟨he,bel0⟩=>?_;have bel:Below W.heap.size W W':=bel0;subst he;exact ⟨_,rfl,_,_,_,[],_,[],hW',trodAll_mk1 (shut_bool Tryz.underlying4 _),(trodAll_cons_mk (Below.trod laidOut (by kernel_rfl) (zP (by kernel_rfl)) k0 bel lt0) (trodAll_cons_mk (Below.trod laidOut (by kernel_rfl) (zP (by kernel_rfl)) k1 bel lt1) trodAll_mk0)),rfl,bel.frame _,fun h=>by cases h⟩
theorem over:Rows.productBehindsRow.holds Tryz.pinned (OpenSpec.ofChange Rows.productBehindsSpec) :=
 OpenClaim.holds_of_wide 3 Tryz.f3 rfl rfl rfl rfl rfl rfl rfl ⟨rfl,rfl,rfl,rfl,rfl⟩ rfl rfl rfl rfl rfl (by kernel_rfl) Tryz.func3 (by kernel_rfl)
  (zP (by kernel_rfl)) (by unfold Func.isWrapper;first|(rw [if_pos (by decide +kernel)];kernel_rfl)|(rw [if_neg (by decide +kernel)];exact ⟨rfl,rfl⟩))
  (fun os started H enc _=>lifted os started H enc)
theorem proved:Rows.ProductBehindsCardSaid :=
 Claim7.holds_tied_plain_at .later [] [.data] true (true, "817fcae6b70999a9c58dd5ff7c5e87c9abc1ae89c5695812d52819fca6855baa") true
  over (fun _ h=>by cases h) (by kernel_rfl) (fun _ h=>by cases h) productBehinds_row_tie rfl ⟨rfl,rfl⟩ (by kernel_rfl) rfl
  (fun f fn hf hfn=>by
   obtain rfl : f = 3 := Option.some.inj ((show Tryz.prog.funcNamed "foretell/foretelllaw.ProductBehinds" = some 3 by kernel_rfl).symm.trans hf) |>.symm
   obtain rfl:fn = Tryz.f3:=(Option.some.inj (Tryz.func3.symm.trans hfn)).symm
   exact ⟨by kernel_rfl,fun j t ht=>by
    rw [Tryz.params3] at ht
    have hm:t ∈ [29,31]:=by simpa using Array.mem_of_getElem? ht
    have hall:([29,31].all fun u=>!Tryz.prog.wantsStandIn u) = true:=by kernel_rfl
    exact (show Tryz.prog.wantsStandIn t = false by simpa using List.all_eq_true.1 hall t hm)⟩)
  (by kernel_rfl)
#print axioms proved
end Go.Proofs.YtgdijfhdpgdanaaGreatDoor.productBehinds
namespace Go.Proofs.YtgdijfhdpgdanaaGreatDoor
theorem productBehinds_holds:Rows.ProductBehindsCardSaid:=productBehinds.proved
end Go.Proofs.YtgdijfhdpgdanaaGreatDoor
