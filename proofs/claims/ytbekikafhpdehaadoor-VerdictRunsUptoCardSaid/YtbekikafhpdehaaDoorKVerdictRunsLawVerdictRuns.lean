import Derived.Test.YtbekikafhpdehaaDoorRows
import Derived.Test.YtbekikafhpdehaaDoorCards
import Derived.Test.YtbekikafhpdehaaDoorTie
import Derived.Test.YtbekikafhpdehaaDoorKVerdictRunsG5
import Derived.Test.YtbekikafhpdehaaDoorKVerdictRunsG51
import Derived.Test.YtbekikafhpdehaaDoorKVerdictRunsG45
import Derived.JoinedCond
import Derived.Stop.Joined
import Derived.Deep.DeepHandedRow
import Derived.WalkKit
import Derived.ProofKit
import Derived.OpenShut
import Derived.ShutString
import Derived.ChangeOld
import Derived.Below
import Derived.SizedLaws
import Derived.WideShapes
import Derived.SevenTiedAt
import Derived.Lay
import Derived.LaidOnce
-- Cut by a program of this session (wip/prune.py) from a longer text: declarations that the law does not need are left out.
namespace Go.Proofs.YtbekikafhpdehaaDoor.verdictRuns
open Go.Proofs.YtbekikafhpdehaaDoor.Al
open Go.Proofs.YtbekikafhpdehaaDoorW.PrintWords
open Go.Proofs.YtbekikafhpdehaaDoor.Sq
open Go.ChangeShapes Go.WideShapes Go.ChangeAt Go.RowKit Go.Proofs.YtbekikafhpdehaaDoor.V
open Go.ChangeMaps (open_string shut_string)
set_option linter.unusedVariables false
theorem own:ownKnob Tryd.prog.godebug = none:=by kernel_rfl
theorem laidOut:laidOutB Tryd.prog = true:=by kernel_rfl
set_option maxRecDepth 100000 in
theorem lifted (os:Os) (started:os.Started) (H:Type) (enc:TypeId × Value → H) (F : Stop.Interp) :
  ReturnsInHanded {} Tryd.checked os 6 .any ((Rows.OpenSpec.upto Rows.verdictRunsSpec).preRow enc Tryd.prog Tryd.f6 [] false [("foretell/polish.parts", Rows.laid_foretell_polish_parts)]) (((Rows.OpenSpec.upto Rows.verdictRunsSpec).at F).post enc Tryd.prog Tryd.f6 false true false false):=by
 have hok:Input.okWideB Tryd.prog ((World.laidAll Tryd.prog os [("foretell/polish.parts", Rows.laid_foretell_polish_parts)]).forCall (fun _ _ => 0) ⟨#[], #[.agg #[.slice none 0 0, .slice none 0 0], .agg #[.slice none 0 0, .slice none 0 0]], []⟩) 6 ⟨#[], #[.agg #[.slice none 0 0, .slice none 0 0], .agg #[.slice none 0 0, .slice none 0 0]], []⟩ = true:=by kernel_rfl
 refine returnsInHanded_of_row (C := Tryd.checked) (s := (Rows.OpenSpec.upto Rows.verdictRunsSpec)) (laid := [("foretell/polish.parts", Rows.laid_foretell_polish_parts)]) own started (by kernel_rfl) Tryd.func6
  ⟨World.laidAll Tryd.prog os [("foretell/polish.parts", Rows.laid_foretell_polish_parts)], fun _ _ => 0, ⟨#[], #[.agg #[.slice none 0 0, .slice none 0 0], .agg #[.slice none 0 0, .slice none 0 0]], []⟩, World.laidAll_os _ _ _, World.shaped_of_ZipB (by kernel_rfl) (by kernel_rfl), (Input.okWide_of_okWideB (base := 0) hok).1, (Input.okWide_of_okWideB hok).2,
   ⟨⟨(OpenSpec.pre_some (k := Rows.uptoSmall) rfl [] false _ _).2 ⟨[.agg [.nil, .nil], .agg [.nil, .nil]], [], [], DataW.Whole_of_whole (fuel := 8) (x := ([.agg [.nil, .nil], .agg [.nil, .nil]], [], [])) (by kernel_rfl), rfl, by kernel_rfl⟩, by rw [MakeChecks.laidMetH_plain _ _ _ (by kernel_rfl)]; exact laidMet_laidAll _ (by kernel_rfl) (by kernel_rfl)⟩, sizedMet_of_sizedB (fuel := 8) (by kernel_rfl)⟩,
   by simp only [Assume.holds]; exact ⟨by simp, by simp, fun _ => Modest.zero, by simp, by simp⟩⟩ ?_
 intro W base args ds gs before hval0 hW hcnd hkk hsz0 hL0 _ _;have hbk0:=hkk Rows.uptoSmall rfl;rw [MakeChecks.laidMetH_plain _ _ _ (by kernel_rfl)] at hL0;have hLG:LaidG W:=laid_of hL0;have hsz:(DataW.weightsEach Tryd.prog (Tryd.f6.params.toList ++ (Rows.OpenSpec.upto Rows.verdictRunsSpec).bare.plain.varTypes Tryd.prog) (ds ++ gs)).all (· ≤ reachBytes) = true:=hsz0;have hval:∀ (j:Nat) t v,Tryd.f6.params[j]? = some t → args[j]? = some v → Value.okWide Tryd.prog W .any base t v:=hval0;have hW':=hW;obtain ⟨p,q,hA0,hV,rfl,hfz,hnd⟩:=hW;have hA:DataW.TrodAll enc Tryd.prog W 0 (fun _=>true) true Tryd.f6.params.toList args.toList ds p:=hA0;rw [Tryd.params6] at hA hval hsz;obtain ⟨v0,vs0,d0,ds0,p0,q0,hargs,rfl,rfl,h0,r0⟩:=trodAll_cons hA;obtain ⟨v1,vs1,d1,ds1,p1,q1,rfl,rfl,rfl,h1,r1⟩:=trodAll_cons r0;obtain ⟨rfl,rfl,rfl⟩:=trodAll_nil r1;obtain rfl:args = #[v0,v1]:=by cases args;simp_all
 obtain ⟨rfl,rfl⟩:=trodVars_none hV;have k0:=h0;have lt0:∀ x ∈ p0,x.block < W.heap.size:=by obtain ⟨m,hm⟩:=k0;exact DataW.trod_lt m _ _ _ hm
 obtain ⟨cs0,rfl,hcs0⟩:=okWide_struct Tryd.underlying25 (hval 0 25 v0 rfl rfl);obtain ⟨x0,K0,good0⟩:=Opens.opened o25 h0 hsz (j:=0) rfl rfl;obtain ⟨_,_,hE,⟨A0_0,c0_0,rfl,hc0_0,hr0_0⟩,⟨A0_1,c0_1,rfl,hc0_1,hr0_1⟩⟩:=K0;obtain rfl:cs0 = #[.slice A0_0 x0.f0.length c0_0,.slice A0_1 x0.f1.length c0_1]:=by cases cs0;simpa [Value.cells] using hE
 clear hE;have k1:=h1;have lt1:∀ x ∈ p1,x.block < W.heap.size:=by obtain ⟨m,hm⟩:=k1;exact DataW.trod_lt m _ _ _ hm
 obtain ⟨cs1,rfl,hcs1⟩:=okWide_struct Tryd.underlying40 (hval 1 40 v1 rfl rfl);obtain ⟨x1,K1,good1⟩:=Opens.opened o40 h1 hsz (j:=1) rfl rfl;obtain ⟨_,_,hE,⟨A1_0,c1_0,rfl,hc1_0,hr1_0⟩,⟨A1_1,c1_1,rfl,hc1_1,hr1_1⟩⟩:=K1;obtain rfl:cs1 = #[.slice A1_0 x1.f0.length c1_0,.slice A1_1 x1.f1.length c1_1]:=by cases cs1;simpa [Value.cells] using hE
 clear hE;have hbkA:=of_decide_eq_true hbk0;simp only [List.cons_append, List.nil_append, Rows.uptoBulkAll] at hbkA;have hbk1_0:x1.f0.length ≤ 1048576:=Nat.le_trans (Opens.bulk_field Tryd.underlying40 (i := 0) rfl (Opens.bulk_len (e' := 3) Tryd.underlying32 (by kernel_rfl)) k1 x1.f0 ⟨A1_0, c1_0, rfl, hc1_0, hr1_0⟩) (by omega);have hbk1_1:x1.f1.length ≤ 1048576:=Nat.le_trans (Opens.bulk_field Tryd.underlying40 (i := 1) rfl (Opens.bulk_len (e' := 3) Tryd.underlying32 (by kernel_rfl)) k1 x1.f1 ⟨A1_1, c1_1, rfl, hc1_1, hr1_1⟩) (by omega);obtain ⟨k,hk⟩:=Pure.VerdictRuns x0 x1 good0 good1 hbk1_0 hbk1_1;refine (foretelllaw_VerdictRuns.calls k _ _ x0.f0 _ _ x0.f1 _ _ x1.f0 _ _ x1.f1 true W hr0_0 hc0_0 hr0_1 hc0_1 hr1_0 hc1_0 hr1_1 hc1_1 hLG hk).mono fun e W' ⟨he,bel0⟩=>?_;have bel:Below W.heap.size W W':=bel0;subst he;exact ⟨_,rfl,_,_,_,[],_,[],hW',trodAll_mk1 (shut_bool Tryd.underlying4 _),(trodAll_cons_mk (Below.trod laidOut (by kernel_rfl) (zP (by kernel_rfl)) k0 bel lt0) (trodAll_cons_mk (Below.trod laidOut (by kernel_rfl) (zP (by kernel_rfl)) k1 bel lt1) trodAll_mk0)),rfl,bel.frame _,fun h=>by cases h⟩
theorem over:Rows.verdictRunsUptoRow.holds Tryd.pinned (Rows.OpenSpec.upto Rows.verdictRunsSpec) :=
 OpenClaim.holds_of_cond 6 Tryd.f6 rfl rfl rfl rfl rfl rfl rfl ⟨rfl,rfl,rfl,rfl,rfl⟩ rfl rfl rfl rfl rfl (by kernel_rfl) Tryd.func6 (by kernel_rfl)
  (zP (by kernel_rfl)) (by unfold Func.isWrapper;first|(rw [if_pos (by decide +kernel)];kernel_rfl)|(rw [if_neg (by decide +kernel)];exact ⟨rfl,rfl⟩))
  (fun os started H enc _ F => by rw [OpenClaim.pre_eq_preRow]; exact lifted os started H enc F)
theorem proved:Rows.VerdictRunsUptoCardSaid :=
 Claim7.holds_tied_plain_at .later [] [.data] true (true, "c090c1b80af3cde8bf26bb1ac25185892f8989c2ab8ebadc420cf70ceec22689") true
  over (fun _ h=>by cases h) (by kernel_rfl) (fun _ h=>by cases h) verdictRunsUpto_row_tie rfl ⟨rfl,rfl⟩ (by kernel_rfl) rfl
  (fun f fn hf hfn=>by
   obtain rfl : f = 6 := Option.some.inj ((show Tryd.prog.funcNamed "foretell/foretelllaw.VerdictRuns" = some 6 by kernel_rfl).symm.trans hf) |>.symm
   obtain rfl:fn = Tryd.f6:=(Option.some.inj (Tryd.func6.symm.trans hfn)).symm
   exact ⟨by kernel_rfl,fun j t ht=>by
    rw [Tryd.params6] at ht
    have hm:t ∈ [25,40]:=by simpa using Array.mem_of_getElem? ht
    have hall:([25,40].all fun u=>!Tryd.prog.wantsStandIn u) = true:=by kernel_rfl
    exact (show Tryd.prog.wantsStandIn t = false by simpa using List.all_eq_true.1 hall t hm)⟩)
  (by kernel_rfl)
#print axioms proved
end Go.Proofs.YtbekikafhpdehaaDoor.verdictRuns
namespace Go.Proofs.YtbekikafhpdehaaDoor
theorem verdictRuns_holds:Rows.VerdictRunsUptoCardSaid:=verdictRuns.proved
end Go.Proofs.YtbekikafhpdehaaDoor
