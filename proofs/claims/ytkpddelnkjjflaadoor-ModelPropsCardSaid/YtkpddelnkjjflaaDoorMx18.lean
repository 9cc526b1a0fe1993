-- WRITTEN by this session's own program (wip/pp.py) over the translation. Not trusted: Lean checks it.
import Derived.Test.YtkpddelnkjjflaaDoorMx0
import Derived.Test.YtkpddelnkjjflaaDoorMx3
import Derived.Test.YtkpddelnkjjflaaDoorMx13
namespace Go.Proofs.YtkpddelnkjjflaaDoor.M
open Go.Proofs.YtkpddelnkjjflaaDoor.Al
open Go.World renaming block_lt_of_cell? → zB
open Nat renaming lt_of_lt_of_le → zS
open Go.Proofs.YtkpddelnkjjflaaDoorW.PrintWords renaming pw_below_drewN → zC, below_alloc → zD, below_drew1 → zE, below_set → zF, below_size → zG, below_step → zH, blk_cell → zI, blk_frozen → zJ, blk_alloc → zK, blk_drewN → zL, blk_drew → zM, blk_below → zN, blk_put → zO, Kd.C_below → zT, gate_callee → zU, gate_dst → zV, box_event → zW
open Go.RowKit Go.Proofs.YtkpddelnkjjflaaDoorW.PrintWords Go.Proofs.YtkpddelnkjjflaaDoorW.PrintLast Go.Proofs.YtkpddelnkjjflaaDoorW.PrintMore
attribute [local go_sem] max2_int min2_int max_two min_two max_three min_three max_four min_four   -- for this text's walks alone
set_option linter.unusedVariables false
set_option linter.unusedSimpArgs false

/-! ### foretelllaw_ModelProps: function 5 -/
def foretelllaw_ModelProps.f (k:Nat) (l0_0:List (S74)) (l0_1:List (S68)) (l1:List (List (S94))):Option (Bool):=(foretelllaw_models.f k l0_0 l0_1).bind fun bt303=>((foretelllaw_terms.f k l1).bind fun t309=>((model_Props.f k bt303.1 bt303.2 t309).bind fun t312=>((foretellref_PropsFault.f k l0_0 l0_1 l1).bind fun t313=>(some (t312 == t313)))))
theorem foretelllaw_ModelProps.mono:∀ a0 a1 a2 k,LeO (foretelllaw_ModelProps.f k a0 a1 a2) (foretelllaw_ModelProps.f (k + 1) a0 a1 a2):=by
 intro a0 a1 a2 k
 unfold foretelllaw_ModelProps.f
 repeat' first
   | (with_reducible exact foretelllaw_models.mono _ _ _)
   | (with_reducible exact foretelllaw_terms.mono _ _)
   | (with_reducible exact foretellref_PropsFault.mono _ _ _ _)
   | (with_reducible exact model_Props.mono _ _ _ _)
   | (with_reducible exact LeO.refl _)
   | (with_reducible exact LeO.none _)
   | (with_reducible refine LeO.ite ?_ ?_)
   | (with_reducible refine LeO.bind ?_ (fun _=>?_))
   | exact foretelllaw_models.mono _ _ _
   | exact foretelllaw_terms.mono _ _
   | exact foretellref_PropsFault.mono _ _ _ _
   | exact model_Props.mono _ _ _ _
   | exact LeO.none _
   | refine LeO.ite ?_ ?_
   | refine LeO.bind ?_ (fun _=>?_)
set_option maxHeartbeats 8000000 in
set_option maxRecDepth 100000 in
theorem foretelllaw_ModelProps.calls (k:Nat) (A0_0:Option Addr) (c0_0:Nat) (l0_0:List (S74)) (A0_1:Option Addr) (c0_1:Nat) (l0_1:List (S68)) (A1:Option Addr) (c1:Nat) (l1:List (List (S94))) (r:Bool) (w:World) (hr0_0:Kd.C k74 w A0_0 l0_0.length l0_0) (hc0_0:l0_0.length ≤ c0_0) (hr0_1:Kd.C k68 w A0_1 l0_1.length l0_1) (hc0_1:l0_1.length ≤ c0_1) (hr1:Kd.C (Kd.slice 94 k94) w A1 l1.length l1) (hc1:l1.length ≤ c1) (hL:LaidG w) (h:foretelllaw_ModelProps.f k l0_0 l0_1 l1 = some r) :
  Calls Tryd.prog 5 #[.agg #[.slice A0_0 l0_0.length c0_0,.slice A0_1 l0_1.length c0_1],.slice A1 l1.length c1] w fun e w'=>e = .returned (.bool r)∧Below w.heap.size w w':=by
 have HLd:=zA hL
 clear hL
 have hu25:=Tryd.underlying25
 have HR0_0:=zA hr0_0
 have HC0_0:=zA hc0_0
 clear hr0_0 hc0_0
 have HR0_1:=zA hr0_1
 have HC0_1:=zA hc0_1
 clear hr0_1 hc0_1
 have HR1:=zA hr1
 have HC1:=zA hc1
 clear hr1 hc1
 have HB:=zA (Below.refl w.heap.size w)
 have H:((foretelllaw_models.f k l0_0 l0_1).bind fun bt303=>((foretelllaw_terms.f k l1).bind fun t309=>((model_Props.f k bt303.1 bt303.2 t309).bind fun t312=>((foretellref_PropsFault.f k l0_0 l0_1 l1).bind fun t313=>(some (t312 == t313)))))) = some r:=h
 clear h
 replace H:=Option.bind_eq_some_iff.mp H
 obtain ⟨⟨t303,t306⟩,A30,H⟩:=H
 replace H:((foretelllaw_terms.f k l1).bind fun t309=>((model_Props.f k t303 t306 t309).bind fun t312=>((foretellref_PropsFault.f k l0_0 l0_1 l1).bind fun t313=>(some (t312 == t313))))) = some r:=H
 have A3:=zA A30
 clear A30
 replace H:=Option.bind_eq_some_iff.mp H
 obtain ⟨t309,A40,H⟩:=H
 replace H:((model_Props.f k t303 t306 t309).bind fun t312=>((foretellref_PropsFault.f k l0_0 l0_1 l1).bind fun t313=>(some (t312 == t313)))) = some r:=H
 have A4:=zA A40
 clear A40
 replace H:=Option.bind_eq_some_iff.mp H
 obtain ⟨t312,A50,H⟩:=H
 replace H:((foretellref_PropsFault.f k l0_0 l0_1 l1).bind fun t313=>(some (t312 == t313))) = some r:=H
 have A5:=zA A50
 clear A50
 replace H:=Option.bind_eq_some_iff.mp H
 obtain ⟨t313,A60,H⟩:=H
 replace H:(some (t312 == t313)) = some r:=H
 have A6:=zA A60
 clear A60
 obtain rfl:=Option.some.inj H
 go_enter Tryd.func5,Tryd.ntmps5
 go_wp2_with (first|((with_reducible refine zV (N:=2) rfl ?_);refine zW ?hg (N:=2) ?hd (cs:=#[.slice A0_0 l0_0.length c0_0,.slice A0_1 l0_1.length c0_1]) (t:=25) ?hr ?_;(case hd=>rfl);(case hg=>rfl);(case hr=>first|(go_simp;done)|(go_simp;rfl));intro gb302 hg w7 hbox hb;have n0_:=zA (zH (by repeat (first|(with_reducible first|exact HB.out|apply zD|apply zC|apply zE)|exact HB.out)) hb);have n1_:=zA (hbox);have n2_:=zA ((by rw [hg];exact (zG (by repeat (first|(with_reducible first|exact HB.out|apply zD|apply zC|apply zE)|exact HB.out))):w.heap.size ≤ gb302));have n3_:=zA ((by rw [hg];exact (zG (by repeat (first|(with_reducible first|exact HB.out|apply zD|apply zC|apply zE)|exact HB.out))):w.heap.size ≤ gb302));clear HB;have HB:=n0_;have BK302:=n1_;have GW302:=n2_;have GE302:=n3_;clear n0_ n1_ n2_ n3_;clear hb hbox hg;have hcz8_0:w7.cell? ⟨gb302,0,none⟩ = some (.slice A0_0 l0_0.length c0_0):=(zI BK302.out 0).trans rfl;have hcz8_1:w7.cell? ⟨gb302,1,none⟩ = some (.slice A0_1 l0_1.length c0_1):=(zI BK302.out 1).trans rfl;have hfz8_0:=zJ BK302.out 0;have hfz8_1:=zJ BK302.out 1)|((with_reducible refine zU (f:=15) rfl ?_);refine goesL_ (some 8) rfl rfl Tryd.func15 (by kernel_rfl) rfl #[.agg #[.slice A0_0 l0_0.length c0_0,.slice A0_1 l0_1.length c0_1]] rfl (by (try simp only [List.map_toArray,List.map_cons,List.map_nil]);first|done|rfl|(simp only [List.length_drop,List.length_take];rfl)) ?_;(with_reducible refine (foretelllaw_models.calls k _ _ l0_0 _ _ l0_1 t303 t306 _ ?side1 ?side2 ?side3 ?side4 A3.out).mono ?_);(case side1=>repeat (first|exact (zT HR0_0.out HB.out)|(with_reducible refine Kd.C_alloc ?_ _)|(with_reducible refine Kd.C_drewN ?_ _)|(with_reducible refine Kd.C_drew ?_)));(case side2=>exact HC0_0.out);(case side3=>repeat (first|exact (zT HR0_1.out HB.out)|(with_reducible refine Kd.C_alloc ?_ _)|(with_reducible refine Kd.C_drewN ?_ _)|(with_reducible refine Kd.C_drew ?_)));(case side4=>exact HC0_1.out);rintro e w9 ⟨v304,v307,rfl,ho0,ho1,hb⟩;refine ⟨_,rfl,?_⟩;have n0_:=zA (Kd.R_lower ho0 (zG (by repeat (first|(with_reducible first|exact HB.out|apply zD|apply zC|apply zE|refine zF ?_ GE302.out)|exact HB.out))));have n1_:=zA (Kd.R_lower ho1 (zG (by repeat (first|(with_reducible first|exact HB.out|apply zD|apply zC|apply zE|refine zF ?_ GE302.out)|exact HB.out))));have n2_:=zA (zN (g:=gb302) (o:=.cells #[.slice A0_0 l0_0.length c0_0,.slice A0_1 l0_1.length c0_1] 25 (0,0)) (by (with_reducible repeat (first|refine zL ?_ _|refine zM ?_|refine zK ?_ _));exact BK302.out) hb);have n3_:=zA (zH (by repeat (first|(with_reducible first|exact HB.out|apply zD|apply zC|apply zE|refine zF ?_ GE302.out)|exact HB.out)) hb);clear BK302;clear HB;have HO305:=n0_;have HO308:=n1_;have BK302:=n2_;have HB:=n3_;clear n0_ n1_ n2_ n3_;(try clear hb);(try clear hb2);(try clear hk);(try clear hi);(try clear ho0);(try clear ho1))|((with_reducible refine zU (f:=22) rfl ?_);refine goesL_ (some 10) rfl rfl Tryd.func22 (by kernel_rfl) rfl #[.slice A1 l1.length c1] rfl (by (try simp only [List.map_toArray,List.map_cons,List.map_nil]);first|done|rfl|(simp only [List.length_drop,List.length_take];rfl)) ?_;(with_reducible refine (foretelllaw_terms.calls k _ _ l1 t309 _ ?side1 ?side2 A4.out).mono ?_);(case side1=>repeat (first|exact (zT HR1.out HB.out)|(with_reducible refine Kd.C_alloc ?_ _)|(with_reducible refine Kd.C_drewN ?_ _)|(with_reducible refine Kd.C_drew ?_)));(case side2=>exact HC1.out);rintro e w10 ⟨v310,rfl,ho0,hb⟩;refine ⟨_,rfl,?_⟩;have n0_:=zA (Kd.R_below (by (with_reducible repeat (first|apply Kd.R_alloc|apply Kd.R_drewN|apply Kd.R_drew));exact HO305.out) hb);have n1_:=zA (Kd.R_below (by (with_reducible repeat (first|apply Kd.R_alloc|apply Kd.R_drewN|apply Kd.R_drew));exact HO308.out) hb);have n2_:=zA (Kd.S_lower ho0 (zG (by repeat (first|(with_reducible first|exact HB.out|apply zD|apply zC|apply zE|refine zF ?_ GE302.out)|exact HB.out))));have n3_:=zA (zN (g:=gb302) (o:=.cells #[.slice A0_0 l0_0.length c0_0,.slice A0_1 l0_1.length c0_1] 25 (0,0)) (by (with_reducible repeat (first|refine zL ?_ _|refine zM ?_|refine zK ?_ _));exact BK302.out) hb);have n4_:=zA (zH (by repeat (first|(with_reducible first|exact HB.out|apply zD|apply zC|apply zE|refine zF ?_ GE302.out)|exact HB.out)) hb);clear HO305;clear HO308;clear BK302;clear HB;have HO305:=n0_;have HO308:=n1_;have HO311:=n2_;have BK302:=n3_;have HB:=n4_;clear n0_ n1_ n2_ n3_ n4_;(try clear hb);(try clear hb2);(try clear hk);(try clear hi);(try clear ho0);obtain ⟨Ao11,co11,eo11⟩:=Kd.R_slice HO305.out;subst eo11;obtain ⟨Ao12,co12,eo12⟩:=Kd.R_slice HO308.out;subst eo12;obtain ⟨Ao13,co13,eo13⟩:=Kd.S_slice HO311.out;subst eo13)|((with_reducible refine zU (f:=21) rfl ?_);refine goesL_ (some 11) rfl rfl Tryd.func21 (by kernel_rfl) rfl #[.agg #[.slice Ao11 t303.length co11,.slice Ao12 t306.length co12],.slice Ao13 t309.length co13] rfl (by (try simp only [List.map_toArray,List.map_cons,List.map_nil]);first|done|rfl|(simp only [List.length_drop,List.length_take];rfl)) ?_;(with_reducible refine (model_Props.calls k _ _ t303 _ _ t306 _ _ t309 t312 _ ?side1 ?side2 ?side3 ?side4 ?side5 ?side6 ?side7 A5.out).mono ?_);(case side1=>repeat (first|exact (Kd.R_reads' HO305.out).2.2|(with_reducible refine Kd.C_alloc ?_ _)|(with_reducible refine Kd.C_drewN ?_ _)|(with_reducible refine Kd.C_drew ?_)));(case side2=>exact (Kd.R_reads' HO305.out).2.1);(case side3=>repeat (first|exact (Kd.R_reads' HO308.out).2.2|(with_reducible refine Kd.C_alloc ?_ _)|(with_reducible refine Kd.C_drewN ?_ _)|(with_reducible refine Kd.C_drew ?_)));(case side4=>exact (Kd.R_reads' HO308.out).2.1);(case side5=>repeat (first|exact (Kd.S_reads' HO311.out).2.2|(with_reducible refine Kd.C_alloc ?_ _)|(with_reducible refine Kd.C_drewN ?_ _)|(with_reducible refine Kd.C_drew ?_)));(case side6=>exact (Kd.S_reads' HO311.out).2.1);(case side7=>first|exact LaidG.below HLd.out (by repeat (first|(with_reducible first|exact HB.out|apply zD|apply zC|apply zE|refine zF ?_ GE302.out)|exact HB.out))|(refine LaidG.below HLd.out ?_;repeat (with_reducible first|exact HB.out|exact Below.refl _ _|apply zD|apply zC|apply zE);done));rintro e w14 ⟨rfl,hb⟩;refine ⟨_,rfl,?_⟩;have n0_:=zA (Kd.R_below (by (with_reducible repeat (first|apply Kd.R_alloc|apply Kd.R_drewN|apply Kd.R_drew));exact HO305.out) hb);have n1_:=zA (Kd.R_below (by (with_reducible repeat (first|apply Kd.R_alloc|apply Kd.R_drewN|apply Kd.R_drew));exact HO308.out) hb);have n2_:=zA (Kd.S_below (by (with_reducible repeat (first|apply Kd.S_alloc|apply Kd.S_drewN|apply Kd.S_drew));exact HO311.out) hb);have n3_:=zA (zN (g:=gb302) (o:=.cells #[.slice A0_0 l0_0.length c0_0,.slice A0_1 l0_1.length c0_1] 25 (0,0)) (by (with_reducible repeat (first|refine zL ?_ _|refine zM ?_|refine zK ?_ _));exact BK302.out) hb);have n4_:=zA (zH (by repeat (first|(with_reducible first|exact HB.out|apply zD|apply zC|apply zE|refine zF ?_ GE302.out)|exact HB.out)) hb);clear HO305;clear HO308;clear HO311;clear BK302;clear HB;have HO305:=n0_;have HO308:=n1_;have HO311:=n2_;have BK302:=n3_;have HB:=n4_;clear n0_ n1_ n2_ n3_ n4_;(try clear hb);(try clear hb2);(try clear hk);(try clear hi);have hcz15_0:w14.cell? ⟨gb302,0,none⟩ = some (.slice A0_0 l0_0.length c0_0):=(zI BK302.out 0).trans rfl;have hcz15_1:w14.cell? ⟨gb302,1,none⟩ = some (.slice A0_1 l0_1.length c0_1):=(zI BK302.out 1).trans rfl;have hfz15_0:=zJ BK302.out 0;have hfz15_1:=zJ BK302.out 1)|((with_reducible refine zU (f:=23) rfl ?_);refine goesL_ (some 14) rfl rfl Tryd.func23 (by kernel_rfl) rfl #[.agg #[.slice A0_0 l0_0.length c0_0,.slice A0_1 l0_1.length c0_1],.slice A1 l1.length c1] rfl (by (try simp only [List.map_toArray,List.map_cons,List.map_nil]);first|done|rfl|(simp only [List.length_drop,List.length_take];rfl)) ?_;(with_reducible refine (foretellref_PropsFault.calls k _ _ l0_0 _ _ l0_1 _ _ l1 t313 _ ?side1 ?side2 ?side3 ?side4 ?side5 ?side6 A6.out).mono ?_);(case side1=>repeat (first|exact (zT HR0_0.out HB.out)|(with_reducible refine Kd.C_alloc ?_ _)|(with_reducible refine Kd.C_drewN ?_ _)|(with_reducible refine Kd.C_drew ?_)));(case side2=>exact HC0_0.out);(case side3=>repeat (first|exact (zT HR0_1.out HB.out)|(with_reducible refine Kd.C_alloc ?_ _)|(with_reducible refine Kd.C_drewN ?_ _)|(with_reducible refine Kd.C_drew ?_)));(case side4=>exact HC0_1.out);(case side5=>repeat (first|exact (zT HR1.out HB.out)|(with_reducible refine Kd.C_alloc ?_ _)|(with_reducible refine Kd.C_drewN ?_ _)|(with_reducible refine Kd.C_drew ?_)));(case side6=>exact HC1.out);rintro e w16 ⟨rfl,hb⟩;refine ⟨_,rfl,?_⟩;have n0_:=zA (Kd.R_below (by (with_reducible repeat (first|apply Kd.R_alloc|apply Kd.R_drewN|apply Kd.R_drew));exact HO305.out) hb);have n1_:=zA (Kd.R_below (by (with_reducible repeat (first|apply Kd.R_alloc|apply Kd.R_drewN|apply Kd.R_drew));exact HO308.out) hb);have n2_:=zA (Kd.S_below (by (with_reducible repeat (first|apply Kd.S_alloc|apply Kd.S_drewN|apply Kd.S_drew));exact HO311.out) hb);have n3_:=zA (zN (g:=gb302) (o:=.cells #[.slice A0_0 l0_0.length c0_0,.slice A0_1 l0_1.length c0_1] 25 (0,0)) (by (with_reducible repeat (first|refine zL ?_ _|refine zM ?_|refine zK ?_ _));exact BK302.out) hb);have n4_:=zA (zH (by repeat (first|(with_reducible first|exact HB.out|apply zD|apply zC|apply zE|refine zF ?_ GE302.out)|exact HB.out)) hb);clear HO305;clear HO308;clear HO311;clear BK302;clear HB;have HO305:=n0_;have HO308:=n1_;have HO311:=n2_;have BK302:=n3_;have HB:=n4_;clear n0_ n1_ n2_ n3_ n4_;(try clear hb);(try clear hb2);(try clear hk);(try clear hi)))
 go_ret
 exact ⟨by first|rfl|(simp [errW_none,errW_some] <;> rfl)|(simp [*,errW_none,errW_some] <;> rfl),by repeat (first|(with_reducible first|exact HB.out|apply zD|apply zC|apply zE|refine zF ?_ GE302.out)|exact HB.out)⟩
 
end Go.Proofs.YtkpddelnkjjflaaDoor.M
