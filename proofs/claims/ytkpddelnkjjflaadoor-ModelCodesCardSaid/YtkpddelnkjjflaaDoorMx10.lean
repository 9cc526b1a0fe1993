-- WRITTEN by this session's own program (wip/pp.py) over the translation. Not trusted: Lean checks it.
import Derived.Test.YtkpddelnkjjflaaDoorMx0
import Derived.Test.YtkpddelnkjjflaaDoorMx6
import Derived.Test.YtkpddelnkjjflaaDoorMx7
import Derived.Test.YtkpddelnkjjflaaDoorMx8
namespace Go.Proofs.YtkpddelnkjjflaaDoor.M
open Go.Proofs.YtkpddelnkjjflaaDoor.Al
open Go.World renaming block_lt_of_cell? → zB
open Nat renaming lt_of_lt_of_le → zS
open Option renaming bind_eq_some_iff → zb
open List renaming setIfInBounds_toArray → zX, set_cons_zero → zY, set_cons_succ → zZ, map_toArray → zx, map_cons → zy, map_nil → zz, length_drop → zd, length_take → zt
open Go.Proofs.YtkpddelnkjjflaaDoorW.PrintWords renaming pw_below_drewN → zC, below_alloc → zD, below_drew1 → zE, below_set → zF, below_size → zG, below_step → zH, blk_cell → zI, blk_frozen → zJ, blk_alloc → zK, blk_drewN → zL, blk_drew → zM, blk_below → zN, blk_put → zO, Kd.C_below → zT, gate_callee → zU, gate_dst → zV, box_event → zW
open Go.RowKit Go.Proofs.YtkpddelnkjjflaaDoorW.PrintWords Go.Proofs.YtkpddelnkjjflaaDoorW.PrintLast Go.Proofs.YtkpddelnkjjflaaDoorW.PrintMore
attribute [local go_sem] max2_int min2_int max_two min_two max_three min_three max_four min_four   -- for this text's walks alone
set_option linter.unusedVariables false
set_option linter.unusedSimpArgs false

/-! ### model_Code: function 25 -/
def model_Code.l0:Nat → List Int → Int → List (S74) → Int → Int → Option (Int × Int)
 | 0,_,_,_,_,_=>none
 | k + 1,x1,x7,x22,x23,x24=>if x24 < x23 then (if 0 ≤ x24 then (if x24 < (x22.length:Int) then (if x24 < (x1.length:Int) then (if (rd x1 x24) < ((rd_T74 x22 x24).f1) then (some (0,9)) else (if (rd x1 x24) > ((rd_T74 x22 x24).f2) then (some (0,9)) else (model_Code.l0 k x1 (wrap64 ((wrap64 ((wrap64 (x7 * (wrap64 ((wrap64 (((rd_T74 x22 x24).f2) - ((rd_T74 x22 x24).f1))) + 1)))) + (rd x1 x24))) - ((rd_T74 x22 x24).f1))) x22 x23 (wrap64 (x24 + 1))))) else (none)) else (none)) else (none)) else (some (x7,0))
def model_Code.f (k:Nat) (l0_0:List (S74)) (l0_1:List (S68)) (l1:List Int):Option (Int × Int):=(model_Check.f k l0_0 l0_1).bind fun t318=>(if t318 = 0 then (if (l1.length:Int) = (l0_0.length:Int) then (model_Code.l0 k l1 0 l0_0 (l0_0.length:Int) 0) else (some (0,9))) else (some (0,t318)))
theorem model_Code.mono_l:∀ k,(∀ y0 y1 y2 y3 y4,LeO (model_Code.l0 k y0 y1 y2 y3 y4) (model_Code.l0 (k + 1) y0 y1 y2 y3 y4))
 | 0=>fun _ _ _ _ _ r h=>by simp [model_Code.l0] at h
 | k + 1=>by
  have ih0:=model_Code.mono_l k
  ·intro y0 y1 y2 y3 y4
   unfold model_Code.l0
   repeat' first
   | (with_reducible exact ih0 _ _ _ _ _)
   | (with_reducible exact model_Check.mono _ _ _)
   | (with_reducible exact LeO.refl _)
   | (with_reducible exact LeO.none _)
   | (with_reducible refine LeO.ite ?_ ?_)
   | (with_reducible refine LeO.bind ?_ (fun _=>?_))
   | exact ih0 _ _ _ _ _
   | exact model_Check.mono _ _ _
   | exact LeO.none _
   | refine LeO.ite ?_ ?_
   | refine LeO.bind ?_ (fun _=>?_)
theorem model_Code.mono:∀ a0 a1 a2 k,LeO (model_Code.f k a0 a1 a2) (model_Code.f (k + 1) a0 a1 a2):=by
 intro a0 a1 a2 k
 have ih0:=model_Code.mono_l k
 unfold model_Code.f
 repeat' first
   | (with_reducible exact ih0 _ _ _ _ _)
   | (with_reducible exact model_Check.mono _ _ _)
   | (with_reducible exact LeO.refl _)
   | (with_reducible exact LeO.none _)
   | (with_reducible refine LeO.ite ?_ ?_)
   | (with_reducible refine LeO.bind ?_ (fun _=>?_))
   | exact ih0 _ _ _ _ _
   | exact model_Check.mono _ _ _
   | exact LeO.none _
   | refine LeO.ite ?_ ?_
   | refine LeO.bind ?_ (fun _=>?_)
set_option maxHeartbeats 8000000 in
set_option maxRecDepth 100000 in
theorem model_Code.calls (k:Nat) (A0_0:Option Addr) (c0_0:Nat) (l0_0:List (S74)) (A0_1:Option Addr) (c0_1:Nat) (l0_1:List (S68)) (A1:Option Addr) (c1:Nat) (l1:List Int) (r1:Int) (r2:Int) (w:World) (hr0_0:Kd.C k74 w A0_0 l0_0.length l0_0) (hc0_0:l0_0.length ≤ c0_0) (hr0_1:Kd.C k68 w A0_1 l0_1.length l0_1) (hc0_1:l0_1.length ≤ c0_1) (hr1:Kd.C (Kd.int .i64) w A1 l1.length l1) (hc1:l1.length ≤ c1) (hL:LaidG w) (h:model_Code.f k l0_0 l0_1 l1 = some (r1,r2)) :
  Calls Tryd.prog 25 #[.agg #[.slice A0_0 l0_0.length c0_0,.slice A0_1 l0_1.length c0_1],.slice A1 l1.length c1] w fun e w'=>e = .returned (.tuple #[.int .i64 r1,.int .i64 r2])∧Below w.heap.size w w':=by
 have HLd:=zA hL
 clear hL
 have hu25:=Tryd.underlying25
 have hu74:=Tryd.underlying74
 have HR0_0:=zA hr0_0
 have HC0_0:=zA hc0_0
 clear hr0_0 hc0_0
 have HR0_1:=zA hr0_1
 have HC0_1:=zA hc0_1
 clear hr0_1 hc0_1
 have HR1:=zA hr1
 have HC1:=zA hc1
 clear hr1 hc1
 have HB:=zA (Below.refl w.heap.size w)
 have H:((model_Check.f k l0_0 l0_1).bind fun t318=>(if t318 = 0 then (if (l1.length:Int) = (l0_0.length:Int) then (model_Code.l0 k l1 0 l0_0 (l0_0.length:Int) 0) else (some (0,9))) else (some (0,t318)))) = some (r1,r2):=h
 clear h
 replace H:=zb.mp H
 obtain ⟨t318,A30,H⟩:=H
 replace H:(if t318 = 0 then (if (l1.length:Int) = (l0_0.length:Int) then (model_Code.l0 k l1 0 l0_0 (l0_0.length:Int) 0) else (some (0,9))) else (some (0,t318))) = some (r1,r2):=H
 have A3:=zA A30
 clear A30
 by_cases c4:t318 = 0
 ·rw [if_pos c4] at H
  have c4b0:(t318 == 0) = true:=beq_iff_eq.mpr c4
  have c4b1:(t318 != 0) = false:=bne_eq_false_iff_eq.mpr c4
  clear c4
  by_cases c5:(l1.length:Int) = (l0_0.length:Int)
  ·rw [if_pos c5] at H
   have c5b0:((l1.length:Int) == (l0_0.length:Int)) = true:=beq_iff_eq.mpr c5
   have c5b1:((l1.length:Int) != (l0_0.length:Int)) = false:=bne_eq_false_iff_eq.mpr c5
   have c5b2:(l1.length == l0_0.length) = true:=by first|simpa using c5|(simp at c5 ⊢;omega)
   clear c5
   have H':=zA H
   clear H
   go_enter Tryd.func25,Tryd.ntmps25
   go_wp2_with (first|((with_reducible refine zV (N:=2) rfl ?_);refine zW ?hg (N:=2) ?hd (cs:=#[.slice A0_0 l0_0.length c0_0,.slice A0_1 l0_1.length c0_1]) (t:=25) ?hr ?_;(case hd=>rfl);(case hg=>rfl);(case hr=>first|(go_simp;done)|(go_simp;rfl));intro gb317 hg w6 hbox hb;have n0_:=zA (zH (by repeat (first|(with_reducible first|exact HB.out|apply zD|apply zC|apply zE)|exact HB.out)) hb);have n1_:=zA (hbox);have n2_:=zA ((by rw [hg];exact (zG (by repeat (first|(with_reducible first|exact HB.out|apply zD|apply zC|apply zE)|exact HB.out))):w.heap.size ≤ gb317));have n3_:=zA ((by rw [hg];exact (zG (by repeat (first|(with_reducible first|exact HB.out|apply zD|apply zC|apply zE)|exact HB.out))):w.heap.size ≤ gb317));clear HB;have HB:=n0_;have BK317:=n1_;have GW317:=n2_;have GE317:=n3_;clear n0_ n1_ n2_ n3_;clear hb hbox hg;have hcz7_0:w6.cell? ⟨gb317,0,none⟩ = some (.slice A0_0 l0_0.length c0_0):=(zI BK317.out 0).trans rfl;have hcz7_1:w6.cell? ⟨gb317,1,none⟩ = some (.slice A0_1 l0_1.length c0_1):=(zI BK317.out 1).trans rfl;have hfz7_0:=zJ BK317.out 0;have hfz7_1:=zJ BK317.out 1)|(go_at_call 16;(with_reducible refine (model_Check.calls k _ _ l0_0 _ _ l0_1 t318 _ ?side1 ?side2 ?side3 ?side4 ?side5 A3.out).mono ?_);(case side1=>repeat (first|exact (zT HR0_0.out HB.out)|(with_reducible refine Kd.C_alloc ?_ _)|(with_reducible refine Kd.C_drewN ?_ _)|(with_reducible refine Kd.C_drew ?_)));(case side2=>exact HC0_0.out);(case side3=>repeat (first|exact (zT HR0_1.out HB.out)|(with_reducible refine Kd.C_alloc ?_ _)|(with_reducible refine Kd.C_drewN ?_ _)|(with_reducible refine Kd.C_drew ?_)));(case side4=>exact HC0_1.out);(case side5=>first|exact LaidG.below HLd.out (by repeat (first|(with_reducible first|exact HB.out|apply zD|apply zC|apply zE|refine zF ?_ GE317.out)|exact HB.out))|(refine LaidG.below HLd.out ?_;repeat (with_reducible first|exact HB.out|exact Below.refl _ _|apply zD|apply zC|apply zE);done));rintro e w8 ⟨rfl,hb⟩;have n0_:=zA (zN (g:=gb317) (o:=.cells #[.slice A0_0 l0_0.length c0_0,.slice A0_1 l0_1.length c0_1] 25 (0,0)) (by (with_reducible repeat (first|refine zL ?_ _|refine zM ?_|refine zK ?_ _));exact BK317.out) hb);have n1_:=zA (zH (by repeat (first|(with_reducible first|exact HB.out|apply zD|apply zC|apply zE|refine zF ?_ GE317.out)|exact HB.out)) hb);clear BK317;clear HB;have BK317:=n0_;have HB:=n1_;clear n0_ n1_;(try clear hb);(try clear hb2);(try clear hk);(try clear hi);have hcz9_0:w8.cell? ⟨gb317,0,none⟩ = some (.slice A0_0 l0_0.length c0_0):=(zI BK317.out 0).trans rfl;have hcz9_1:w8.cell? ⟨gb317,1,none⟩ = some (.slice A0_1 l0_1.length c0_1):=(zI BK317.out 1).trans rfl;have hfz9_0:=zJ BK317.out 0;have hfz9_1:=zJ BK317.out 1))
   repeat (go_quiet (first|((with_reducible refine zV (N:=2) rfl ?_);refine zW ?hg (N:=2) ?hd (cs:=#[.slice A0_0 l0_0.length c0_0,.slice A0_1 l0_1.length c0_1]) (t:=25) ?hr ?_;(case hd=>rfl);(case hg=>rfl);(case hr=>first|(go_simp;done)|(go_simp;rfl));intro gb317 hg w6 hbox hb;have n0_:=zA (zH (by repeat (first|(with_reducible first|exact HB.out|apply zD|apply zC|apply zE)|exact HB.out)) hb);have n1_:=zA (hbox);have n2_:=zA ((by rw [hg];exact (zG (by repeat (first|(with_reducible first|exact HB.out|apply zD|apply zC|apply zE)|exact HB.out))):w.heap.size ≤ gb317));have n3_:=zA ((by rw [hg];exact (zG (by repeat (first|(with_reducible first|exact HB.out|apply zD|apply zC|apply zE)|exact HB.out))):w.heap.size ≤ gb317));clear HB;have HB:=n0_;have BK317:=n1_;have GW317:=n2_;have GE317:=n3_;clear n0_ n1_ n2_ n3_;clear hb hbox hg;have hcz7_0:w6.cell? ⟨gb317,0,none⟩ = some (.slice A0_0 l0_0.length c0_0):=(zI BK317.out 0).trans rfl;have hcz7_1:w6.cell? ⟨gb317,1,none⟩ = some (.slice A0_1 l0_1.length c0_1):=(zI BK317.out 1).trans rfl;have hfz7_0:=zJ BK317.out 0;have hfz7_1:=zJ BK317.out 1)|(go_at_call 16;(with_reducible refine (model_Check.calls k _ _ l0_0 _ _ l0_1 t318 _ ?side1 ?side2 ?side3 ?side4 ?side5 A3.out).mono ?_);(case side1=>repeat (first|exact (zT HR0_0.out HB.out)|(with_reducible refine Kd.C_alloc ?_ _)|(with_reducible refine Kd.C_drewN ?_ _)|(with_reducible refine Kd.C_drew ?_)));(case side2=>exact HC0_0.out);(case side3=>repeat (first|exact (zT HR0_1.out HB.out)|(with_reducible refine Kd.C_alloc ?_ _)|(with_reducible refine Kd.C_drewN ?_ _)|(with_reducible refine Kd.C_drew ?_)));(case side4=>exact HC0_1.out);(case side5=>first|exact LaidG.below HLd.out (by repeat (first|(with_reducible first|exact HB.out|apply zD|apply zC|apply zE|refine zF ?_ GE317.out)|exact HB.out))|(refine LaidG.below HLd.out ?_;repeat (with_reducible first|exact HB.out|exact Below.refl _ _|apply zD|apply zC|apply zE);done));rintro e w8 ⟨rfl,hb⟩;have n0_:=zA (zN (g:=gb317) (o:=.cells #[.slice A0_0 l0_0.length c0_0,.slice A0_1 l0_1.length c0_1] 25 (0,0)) (by (with_reducible repeat (first|refine zL ?_ _|refine zM ?_|refine zK ?_ _));exact BK317.out) hb);have n1_:=zA (zH (by repeat (first|(with_reducible first|exact HB.out|apply zD|apply zC|apply zE|refine zF ?_ GE317.out)|exact HB.out)) hb);clear BK317;clear HB;have BK317:=n0_;have HB:=n1_;clear n0_ n1_;(try clear hb);(try clear hb2);(try clear hk);(try clear hi);have hcz9_0:w8.cell? ⟨gb317,0,none⟩ = some (.slice A0_0 l0_0.length c0_0):=(zI BK317.out 0).trans rfl;have hcz9_1:w8.cell? ⟨gb317,1,none⟩ = some (.slice A0_1 l0_1.length c0_1):=(zI BK317.out 1).trans rfl;have hfz9_0:=zJ BK317.out 0;have hfz9_1:=zJ BK317.out 1));try go_wp2_with (first|((with_reducible refine zV (N:=2) rfl ?_);refine zW ?hg (N:=2) ?hd (cs:=#[.slice A0_0 l0_0.length c0_0,.slice A0_1 l0_1.length c0_1]) (t:=25) ?hr ?_;(case hd=>rfl);(case hg=>rfl);(case hr=>first|(go_simp;done)|(go_simp;rfl));intro gb317 hg w6 hbox hb;have n0_:=zA (zH (by repeat (first|(with_reducible first|exact HB.out|apply zD|apply zC|apply zE)|exact HB.out)) hb);have n1_:=zA (hbox);have n2_:=zA ((by rw [hg];exact (zG (by repeat (first|(with_reducible first|exact HB.out|apply zD|apply zC|apply zE)|exact HB.out))):w.heap.size ≤ gb317));have n3_:=zA ((by rw [hg];exact (zG (by repeat (first|(with_reducible first|exact HB.out|apply zD|apply zC|apply zE)|exact HB.out))):w.heap.size ≤ gb317));clear HB;have HB:=n0_;have BK317:=n1_;have GW317:=n2_;have GE317:=n3_;clear n0_ n1_ n2_ n3_;clear hb hbox hg;have hcz7_0:w6.cell? ⟨gb317,0,none⟩ = some (.slice A0_0 l0_0.length c0_0):=(zI BK317.out 0).trans rfl;have hcz7_1:w6.cell? ⟨gb317,1,none⟩ = some (.slice A0_1 l0_1.length c0_1):=(zI BK317.out 1).trans rfl;have hfz7_0:=zJ BK317.out 0;have hfz7_1:=zJ BK317.out 1)|(go_at_call 16;(with_reducible refine (model_Check.calls k _ _ l0_0 _ _ l0_1 t318 _ ?side1 ?side2 ?side3 ?side4 ?side5 A3.out).mono ?_);(case side1=>repeat (first|exact (zT HR0_0.out HB.out)|(with_reducible refine Kd.C_alloc ?_ _)|(with_reducible refine Kd.C_drewN ?_ _)|(with_reducible refine Kd.C_drew ?_)));(case side2=>exact HC0_0.out);(case side3=>repeat (first|exact (zT HR0_1.out HB.out)|(with_reducible refine Kd.C_alloc ?_ _)|(with_reducible refine Kd.C_drewN ?_ _)|(with_reducible refine Kd.C_drew ?_)));(case side4=>exact HC0_1.out);(case side5=>first|exact LaidG.below HLd.out (by repeat (first|(with_reducible first|exact HB.out|apply zD|apply zC|apply zE|refine zF ?_ GE317.out)|exact HB.out))|(refine LaidG.below HLd.out ?_;repeat (with_reducible first|exact HB.out|exact Below.refl _ _|apply zD|apply zC|apply zE);done));rintro e w8 ⟨rfl,hb⟩;have n0_:=zA (zN (g:=gb317) (o:=.cells #[.slice A0_0 l0_0.length c0_0,.slice A0_1 l0_1.length c0_1] 25 (0,0)) (by (with_reducible repeat (first|refine zL ?_ _|refine zM ?_|refine zK ?_ _));exact BK317.out) hb);have n1_:=zA (zH (by repeat (first|(with_reducible first|exact HB.out|apply zD|apply zC|apply zE|refine zF ?_ GE317.out)|exact HB.out)) hb);clear BK317;clear HB;have BK317:=n0_;have HB:=n1_;clear n0_ n1_;(try clear hb);(try clear hb2);(try clear hk);(try clear hi);have hcz9_0:w8.cell? ⟨gb317,0,none⟩ = some (.slice A0_0 l0_0.length c0_0):=(zI BK317.out 0).trans rfl;have hcz9_1:w8.cell? ⟨gb317,1,none⟩ = some (.slice A0_1 l0_1.length c0_1):=(zI BK317.out 1).trans rfl;have hfz9_0:=zJ BK317.out 0;have hfz9_1:=zJ BK317.out 1)))
   go_loopg [7,24] k (fun kq v7 v24 w'=>∃ (x7_1:Int) (x24_1:Int),v7 = .int .i64 x7_1∧v24 = .int .i64 x24_1∧Aside0 (model_Code.l0 kq l1 x7_1 l0_0 (l0_0.length:Int) x24_1 = some (r1,r2))∧Aside0 (kq ≤ k)∧Aside0 (w'.heap[gb317]? = some (.cells #[(.slice A0_0 l0_0.length c0_0),(.slice A0_1 l0_1.length c0_1)] 25 (0,0)))∧Aside0 (Below w.heap.size w w'))
   case atStart=>exact ⟨(0),(0),(by first|rfl|(simp;done)|(simp [*];done)),(by first|rfl|(simp;done)|(simp [*];done)),H',⟨Nat.le_refl _⟩,⟨by (with_reducible repeat (first|refine zL ?_ _|refine zM ?_|refine zK ?_ _));exact BK317.out⟩,⟨by repeat (first|(with_reducible first|exact HB.out|apply zD|apply zC|apply zE|refine zF ?_ GE317.out)|exact HB.out)⟩⟩
   case round =>
    clear H'
    try clear c1
    try clear c2
    try clear p2
    try clear c4
    try clear c4b0
    try clear c4b1
    try clear c5
    try clear c5b0
    try clear c5b1
    try clear c5b2
    try clear hcz7_0
    try clear hcz7_1
    try clear hcz9_0
    try clear hcz9_1
    try clear hfz7_0
    try clear hfz7_1
    try clear hfz9_0
    try clear hfz9_1
    obtain ⟨x7_1,x24_1,rfl,rfl,HA,HK1,BK317,HB⟩:=hrel
    cases gk with
    | zero=>exact absurd HA.out (by simp [model_Code.l0])
    | succ k1 =>
     have H:=HA.out
     clear HA
     simp only [model_Code.l0] at H
     by_cases c10:x24_1 < (l0_0.length:Int)
     ·rw [if_pos c10] at H
      have c10b0:decide (x24_1 < (l0_0.length:Int)) = true:=zQ c10
      clear c10
      by_cases c11:0 ≤ x24_1
      ·rw [if_pos c11] at H
       have c11b0:decide (0 ≤ x24_1) = true:=zQ c11
       clear c11
       by_cases c12:x24_1 < (l0_0.length:Int)
       ·rw [if_pos c12] at H
        have c12b0:decide (x24_1 < (l0_0.length:Int)) = true:=zQ c12
        clear c12
        by_cases c13:x24_1 < (l1.length:Int)
        ·rw [if_pos c13] at H
         have c13b0:decide (x24_1 < (l1.length:Int)) = true:=zQ c13
         clear c13
         by_cases c14:(rd l1 x24_1) < ((rd_T74 l0_0 x24_1).f1)
         ·rw [if_pos c14] at H
          have c14b0:decide ((rd l1 x24_1) < ((rd_T74 l0_0 x24_1).f1)) = true:=zQ c14
          clear c14
          simp only [Option.some.injEq,Prod.mk.injEq] at H
          obtain ⟨rfl,rfl⟩:=H
          have p319:0 ≤ (x24_1:Int):=zP (by assumption)
          have q319:x24_1 < (l0_0.length:Int):=zP (by assumption)
          obtain ⟨ad319,e319,hx319_0,hx319_1,hx319_2,hx319_3⟩:=at_T74 HR0_0.out x24_1 p319 q319
          cases e319
          replace hx319_0:=(HB.out.cell (zB w _ hx319_0)).trans hx319_0
          replace hx319_1:=(HB.out.cell (zB w _ hx319_1)).trans hx319_1
          replace hx319_2:=(HB.out.cell (zB w _ hx319_2)).trans hx319_2
          replace hx319_3:=(HB.out.cell (zB w _ hx319_3)).trans hx319_3
          replace p319:=eq_true p319
          replace q319:=eq_true q319
          go_wp2_with (first|((with_reducible refine zV (N:=9) rfl ?_);refine zW ?hg (N:=9) ?hd (cs:=#[.string (⟨#[]⟩:ByteArray),.int .i64 0,.int .i64 0,.int .i64 0]) (t:=74) ?hr ?_;(case hd=>rfl);(case hg=>rfl);(case hr=>first|(go_simp;done)|(go_simp;rfl));intro gb320 hg w15 hbox hb;have n0_:=zA (zN (g:=gb317) (o:=.cells #[.slice (some ad319) l0_0.length c0_0,.slice A0_1 l0_1.length c0_1] 25 (0,0)) (by (with_reducible repeat (first|refine zL ?_ _|refine zM ?_|refine zK ?_ _));exact BK317.out) hb);have n1_:=zA (zH (by repeat (first|(with_reducible first|exact HB.out|apply zD|apply zC|apply zE|refine zF ?_ GE317.out)|exact HB.out)) hb);have n2_:=zA (hbox);have n3_:=zA ((by rw [hg];exact (zG (by repeat (first|(with_reducible first|exact HB.out|apply zD|apply zC|apply zE|refine zF ?_ GE317.out)|exact HB.out))):w.heap.size ≤ gb320));have n4_:=zA ((by rw [hg];exact (zG (by repeat (first|(with_reducible first|exact HB.out|apply zD|apply zC|apply zE|refine zF ?_ GE317.out)|exact HB.out))):w.heap.size ≤ gb320));have n5_:=zA ((by rw [hg];exact Nat.ne_of_lt (blk_lt (g:=gb317) (o:=.cells #[.slice (some ad319) l0_0.length c0_0,.slice A0_1 l0_1.length c0_1] 25 (0,0)) (by (with_reducible repeat (first|refine zL ?_ _|refine zM ?_|refine zK ?_ _));exact BK317.out)):gb317 ≠ gb320));have n6_:=zA ((by rw [hg];exact Nat.ne_of_gt (blk_lt (g:=gb317) (o:=.cells #[.slice (some ad319) l0_0.length c0_0,.slice A0_1 l0_1.length c0_1] 25 (0,0)) (by (with_reducible repeat (first|refine zL ?_ _|refine zM ?_|refine zK ?_ _));exact BK317.out)):gb320 ≠ gb317));clear BK317;clear HB;have BK317:=n0_;have HB:=n1_;have BK320:=n2_;have GW320:=n3_;have GE320:=n4_;have NB317_320:=n5_;have NB320_317:=n6_;clear n0_ n1_ n2_ n3_ n4_ n5_ n6_;clear hb hbox hg;have hnb16:=NB320_317.out;have hnc16:=NB317_320.out;have hcz17_0:w15.cell? ⟨gb320,0,none⟩ = some (.string (⟨#[]⟩:ByteArray)):=(zI BK320.out 0).trans rfl;have hcz17_1:w15.cell? ⟨gb320,1,none⟩ = some (.int .i64 0):=(zI BK320.out 1).trans rfl;have hcz17_2:w15.cell? ⟨gb320,2,none⟩ = some (.int .i64 0):=(zI BK320.out 2).trans rfl;have hcz17_3:w15.cell? ⟨gb320,3,none⟩ = some (.int .i64 0):=(zI BK320.out 3).trans rfl;have hfz17_0:=zJ BK320.out 0;have hfz17_1:=zJ BK320.out 1;have hfz17_2:=zJ BK320.out 2;have hfz17_3:=zJ BK320.out 3;have p321:0 ≤ (x24_1:Int):=zP (by assumption);have q321:x24_1 < (l1.length:Int):=zP (by assumption);obtain ⟨ad321,e321,hx321_0⟩:=Kd.at_int HR1.out x24_1 p321 q321;cases e321;have hn321_0:ad321.block ≠ gb320:=Nat.ne_of_lt (zS (by have:=zB _ _ hx321_0;first|rwa [add_block] at this|exact this) GW320.out);have hn321_1:ad321.block ≠ gb320:=Nat.ne_of_lt (zS (by have:=zB _ _ hx321_0;first|rwa [add_block] at this|exact this) GW320.out);have hn321_2:ad321.block ≠ gb320:=Nat.ne_of_lt (zS (by have:=zB _ _ hx321_0;first|rwa [add_block] at this|exact this) GW320.out);have hn321_3:ad321.block ≠ gb320:=Nat.ne_of_lt (zS (by have:=zB _ _ hx321_0;first|rwa [add_block] at this|exact this) GW320.out);replace hx321_0:=(HB.out.cell (zB w _ hx321_0)).trans hx321_0;replace hx321_0:=(cell_far (p:=⟨gb320,0,none⟩) (by first|(rw [add_block];exact hn321_0)|(show (Addr.add _ _).block ≠ _;rw [add_block];exact hn321_0)|exact hn321_0) (.string ((rd_T74 l0_0 x24_1).f0))).trans hx321_0;replace hx321_0:=(cell_far (p:=⟨gb320,1,none⟩) (by first|(rw [add_block];exact hn321_1)|(show (Addr.add _ _).block ≠ _;rw [add_block];exact hn321_1)|exact hn321_1) (.int .i64 ((rd_T74 l0_0 x24_1).f1))).trans hx321_0;replace hx321_0:=(cell_far (p:=⟨gb320,2,none⟩) (by first|(rw [add_block];exact hn321_2)|(show (Addr.add _ _).block ≠ _;rw [add_block];exact hn321_2)|exact hn321_2) (.int .i64 ((rd_T74 l0_0 x24_1).f2))).trans hx321_0;replace hx321_0:=(cell_far (p:=⟨gb320,3,none⟩) (by first|(rw [add_block];exact hn321_3)|(show (Addr.add _ _).block ≠ _;rw [add_block];exact hn321_3)|exact hn321_3) (.int .i64 ((rd_T74 l0_0 x24_1).f3))).trans hx321_0;(try have hy321_0:=fun (n_:Nat)=>(show ((((((w15.drewN n_).setCell ⟨gb320,0,none⟩ (.string ((rd_T74 l0_0 x24_1).f0))).setCell ⟨gb320,1,none⟩ (.int .i64 ((rd_T74 l0_0 x24_1).f1))).setCell ⟨gb320,2,none⟩ (.int .i64 ((rd_T74 l0_0 x24_1).f2))).setCell ⟨gb320,3,none⟩ (.int .i64 ((rd_T74 l0_0 x24_1).f3)))).cell? _ = some _ from hx321_0));clear hn321_0;clear hn321_1;clear hn321_2;clear hn321_3;replace p321:=eq_true p321;replace q321:=eq_true q321))
          repeat (go_quiet (first|((with_reducible refine zV (N:=9) rfl ?_);refine zW ?hg (N:=9) ?hd (cs:=#[.string (⟨#[]⟩:ByteArray),.int .i64 0,.int .i64 0,.int .i64 0]) (t:=74) ?hr ?_;(case hd=>rfl);(case hg=>rfl);(case hr=>first|(go_simp;done)|(go_simp;rfl));intro gb320 hg w15 hbox hb;have n0_:=zA (zN (g:=gb317) (o:=.cells #[.slice (some ad319) l0_0.length c0_0,.slice A0_1 l0_1.length c0_1] 25 (0,0)) (by (with_reducible repeat (first|refine zL ?_ _|refine zM ?_|refine zK ?_ _));exact BK317.out) hb);have n1_:=zA (zH (by repeat (first|(with_reducible first|exact HB.out|apply zD|apply zC|apply zE|refine zF ?_ GE317.out)|exact HB.out)) hb);have n2_:=zA (hbox);have n3_:=zA ((by rw [hg];exact (zG (by repeat (first|(with_reducible first|exact HB.out|apply zD|apply zC|apply zE|refine zF ?_ GE317.out)|exact HB.out))):w.heap.size ≤ gb320));have n4_:=zA ((by rw [hg];exact (zG (by repeat (first|(with_reducible first|exact HB.out|apply zD|apply zC|apply zE|refine zF ?_ GE317.out)|exact HB.out))):w.heap.size ≤ gb320));have n5_:=zA ((by rw [hg];exact Nat.ne_of_lt (blk_lt (g:=gb317) (o:=.cells #[.slice (some ad319) l0_0.length c0_0,.slice A0_1 l0_1.length c0_1] 25 (0,0)) (by (with_reducible repeat (first|refine zL ?_ _|refine zM ?_|refine zK ?_ _));exact BK317.out)):gb317 ≠ gb320));have n6_:=zA ((by rw [hg];exact Nat.ne_of_gt (blk_lt (g:=gb317) (o:=.cells #[.slice (some ad319) l0_0.length c0_0,.slice A0_1 l0_1.length c0_1] 25 (0,0)) (by (with_reducible repeat (first|refine zL ?_ _|refine zM ?_|refine zK ?_ _));exact BK317.out)):gb320 ≠ gb317));clear BK317;clear HB;have BK317:=n0_;have HB:=n1_;have BK320:=n2_;have GW320:=n3_;have GE320:=n4_;have NB317_320:=n5_;have NB320_317:=n6_;clear n0_ n1_ n2_ n3_ n4_ n5_ n6_;clear hb hbox hg;have hnb16:=NB320_317.out;have hnc16:=NB317_320.out;have hcz17_0:w15.cell? ⟨gb320,0,none⟩ = some (.string (⟨#[]⟩:ByteArray)):=(zI BK320.out 0).trans rfl;have hcz17_1:w15.cell? ⟨gb320,1,none⟩ = some (.int .i64 0):=(zI BK320.out 1).trans rfl;have hcz17_2:w15.cell? ⟨gb320,2,none⟩ = some (.int .i64 0):=(zI BK320.out 2).trans rfl;have hcz17_3:w15.cell? ⟨gb320,3,none⟩ = some (.int .i64 0):=(zI BK320.out 3).trans rfl;have hfz17_0:=zJ BK320.out 0;have hfz17_1:=zJ BK320.out 1;have hfz17_2:=zJ BK320.out 2;have hfz17_3:=zJ BK320.out 3;have p321:0 ≤ (x24_1:Int):=zP (by assumption);have q321:x24_1 < (l1.length:Int):=zP (by assumption);obtain ⟨ad321,e321,hx321_0⟩:=Kd.at_int HR1.out x24_1 p321 q321;cases e321;have hn321_0:ad321.block ≠ gb320:=Nat.ne_of_lt (zS (by have:=zB _ _ hx321_0;first|rwa [add_block] at this|exact this) GW320.out);have hn321_1:ad321.block ≠ gb320:=Nat.ne_of_lt (zS (by have:=zB _ _ hx321_0;first|rwa [add_block] at this|exact this) GW320.out);have hn321_2:ad321.block ≠ gb320:=Nat.ne_of_lt (zS (by have:=zB _ _ hx321_0;first|rwa [add_block] at this|exact this) GW320.out);have hn321_3:ad321.block ≠ gb320:=Nat.ne_of_lt (zS (by have:=zB _ _ hx321_0;first|rwa [add_block] at this|exact this) GW320.out);replace hx321_0:=(HB.out.cell (zB w _ hx321_0)).trans hx321_0;replace hx321_0:=(cell_far (p:=⟨gb320,0,none⟩) (by first|(rw [add_block];exact hn321_0)|(show (Addr.add _ _).block ≠ _;rw [add_block];exact hn321_0)|exact hn321_0) (.string ((rd_T74 l0_0 x24_1).f0))).trans hx321_0;replace hx321_0:=(cell_far (p:=⟨gb320,1,none⟩) (by first|(rw [add_block];exact hn321_1)|(show (Addr.add _ _).block ≠ _;rw [add_block];exact hn321_1)|exact hn321_1) (.int .i64 ((rd_T74 l0_0 x24_1).f1))).trans hx321_0;replace hx321_0:=(cell_far (p:=⟨gb320,2,none⟩) (by first|(rw [add_block];exact hn321_2)|(show (Addr.add _ _).block ≠ _;rw [add_block];exact hn321_2)|exact hn321_2) (.int .i64 ((rd_T74 l0_0 x24_1).f2))).trans hx321_0;replace hx321_0:=(cell_far (p:=⟨gb320,3,none⟩) (by first|(rw [add_block];exact hn321_3)|(show (Addr.add _ _).block ≠ _;rw [add_block];exact hn321_3)|exact hn321_3) (.int .i64 ((rd_T74 l0_0 x24_1).f3))).trans hx321_0;(try have hy321_0:=fun (n_:Nat)=>(show ((((((w15.drewN n_).setCell ⟨gb320,0,none⟩ (.string ((rd_T74 l0_0 x24_1).f0))).setCell ⟨gb320,1,none⟩ (.int .i64 ((rd_T74 l0_0 x24_1).f1))).setCell ⟨gb320,2,none⟩ (.int .i64 ((rd_T74 l0_0 x24_1).f2))).setCell ⟨gb320,3,none⟩ (.int .i64 ((rd_T74 l0_0 x24_1).f3)))).cell? _ = some _ from hx321_0));clear hn321_0;clear hn321_1;clear hn321_2;clear hn321_3;replace p321:=eq_true p321;replace q321:=eq_true q321));try go_wp2_with (first|((with_reducible refine zV (N:=9) rfl ?_);refine zW ?hg (N:=9) ?hd (cs:=#[.string (⟨#[]⟩:ByteArray),.int .i64 0,.int .i64 0,.int .i64 0]) (t:=74) ?hr ?_;(case hd=>rfl);(case hg=>rfl);(case hr=>first|(go_simp;done)|(go_simp;rfl));intro gb320 hg w15 hbox hb;have n0_:=zA (zN (g:=gb317) (o:=.cells #[.slice (some ad319) l0_0.length c0_0,.slice A0_1 l0_1.length c0_1] 25 (0,0)) (by (with_reducible repeat (first|refine zL ?_ _|refine zM ?_|refine zK ?_ _));exact BK317.out) hb);have n1_:=zA (zH (by repeat (first|(with_reducible first|exact HB.out|apply zD|apply zC|apply zE|refine zF ?_ GE317.out)|exact HB.out)) hb);have n2_:=zA (hbox);have n3_:=zA ((by rw [hg];exact (zG (by repeat (first|(with_reducible first|exact HB.out|apply zD|apply zC|apply zE|refine zF ?_ GE317.out)|exact HB.out))):w.heap.size ≤ gb320));have n4_:=zA ((by rw [hg];exact (zG (by repeat (first|(with_reducible first|exact HB.out|apply zD|apply zC|apply zE|refine zF ?_ GE317.out)|exact HB.out))):w.heap.size ≤ gb320));have n5_:=zA ((by rw [hg];exact Nat.ne_of_lt (blk_lt (g:=gb317) (o:=.cells #[.slice (some ad319) l0_0.length c0_0,.slice A0_1 l0_1.length c0_1] 25 (0,0)) (by (with_reducible repeat (first|refine zL ?_ _|refine zM ?_|refine zK ?_ _));exact BK317.out)):gb317 ≠ gb320));have n6_:=zA ((by rw [hg];exact Nat.ne_of_gt (blk_lt (g:=gb317) (o:=.cells #[.slice (some ad319) l0_0.length c0_0,.slice A0_1 l0_1.length c0_1] 25 (0,0)) (by (with_reducible repeat (first|refine zL ?_ _|refine zM ?_|refine zK ?_ _));exact BK317.out)):gb320 ≠ gb317));clear BK317;clear HB;have BK317:=n0_;have HB:=n1_;have BK320:=n2_;have GW320:=n3_;have GE320:=n4_;have NB317_320:=n5_;have NB320_317:=n6_;clear n0_ n1_ n2_ n3_ n4_ n5_ n6_;clear hb hbox hg;have hnb16:=NB320_317.out;have hnc16:=NB317_320.out;have hcz17_0:w15.cell? ⟨gb320,0,none⟩ = some (.string (⟨#[]⟩:ByteArray)):=(zI BK320.out 0).trans rfl;have hcz17_1:w15.cell? ⟨gb320,1,none⟩ = some (.int .i64 0):=(zI BK320.out 1).trans rfl;have hcz17_2:w15.cell? ⟨gb320,2,none⟩ = some (.int .i64 0):=(zI BK320.out 2).trans rfl;have hcz17_3:w15.cell? ⟨gb320,3,none⟩ = some (.int .i64 0):=(zI BK320.out 3).trans rfl;have hfz17_0:=zJ BK320.out 0;have hfz17_1:=zJ BK320.out 1;have hfz17_2:=zJ BK320.out 2;have hfz17_3:=zJ BK320.out 3;have p321:0 ≤ (x24_1:Int):=zP (by assumption);have q321:x24_1 < (l1.length:Int):=zP (by assumption);obtain ⟨ad321,e321,hx321_0⟩:=Kd.at_int HR1.out x24_1 p321 q321;cases e321;have hn321_0:ad321.block ≠ gb320:=Nat.ne_of_lt (zS (by have:=zB _ _ hx321_0;first|rwa [add_block] at this|exact this) GW320.out);have hn321_1:ad321.block ≠ gb320:=Nat.ne_of_lt (zS (by have:=zB _ _ hx321_0;first|rwa [add_block] at this|exact this) GW320.out);have hn321_2:ad321.block ≠ gb320:=Nat.ne_of_lt (zS (by have:=zB _ _ hx321_0;first|rwa [add_block] at this|exact this) GW320.out);have hn321_3:ad321.block ≠ gb320:=Nat.ne_of_lt (zS (by have:=zB _ _ hx321_0;first|rwa [add_block] at this|exact this) GW320.out);replace hx321_0:=(HB.out.cell (zB w _ hx321_0)).trans hx321_0;replace hx321_0:=(cell_far (p:=⟨gb320,0,none⟩) (by first|(rw [add_block];exact hn321_0)|(show (Addr.add _ _).block ≠ _;rw [add_block];exact hn321_0)|exact hn321_0) (.string ((rd_T74 l0_0 x24_1).f0))).trans hx321_0;replace hx321_0:=(cell_far (p:=⟨gb320,1,none⟩) (by first|(rw [add_block];exact hn321_1)|(show (Addr.add _ _).block ≠ _;rw [add_block];exact hn321_1)|exact hn321_1) (.int .i64 ((rd_T74 l0_0 x24_1).f1))).trans hx321_0;replace hx321_0:=(cell_far (p:=⟨gb320,2,none⟩) (by first|(rw [add_block];exact hn321_2)|(show (Addr.add _ _).block ≠ _;rw [add_block];exact hn321_2)|exact hn321_2) (.int .i64 ((rd_T74 l0_0 x24_1).f2))).trans hx321_0;replace hx321_0:=(cell_far (p:=⟨gb320,3,none⟩) (by first|(rw [add_block];exact hn321_3)|(show (Addr.add _ _).block ≠ _;rw [add_block];exact hn321_3)|exact hn321_3) (.int .i64 ((rd_T74 l0_0 x24_1).f3))).trans hx321_0;(try have hy321_0:=fun (n_:Nat)=>(show ((((((w15.drewN n_).setCell ⟨gb320,0,none⟩ (.string ((rd_T74 l0_0 x24_1).f0))).setCell ⟨gb320,1,none⟩ (.int .i64 ((rd_T74 l0_0 x24_1).f1))).setCell ⟨gb320,2,none⟩ (.int .i64 ((rd_T74 l0_0 x24_1).f2))).setCell ⟨gb320,3,none⟩ (.int .i64 ((rd_T74 l0_0 x24_1).f3)))).cell? _ = some _ from hx321_0));clear hn321_0;clear hn321_1;clear hn321_2;clear hn321_3;replace p321:=eq_true p321;replace q321:=eq_true q321)))
          go_ret2
          exact ⟨by first|rfl|(simp [errW_none,errW_some] <;> rfl)|(simp [*,errW_none,errW_some] <;> rfl),by repeat (first|(with_reducible first|exact HB.out|apply zD|apply zC|apply zE|refine zF ?_ GE317.out|refine zF ?_ GE320.out)|exact HB.out)⟩
         ·rw [if_neg c14] at H
          have c14b0:decide ((rd l1 x24_1) < ((rd_T74 l0_0 x24_1).f1)) = false:=zR c14
          clear c14
          by_cases c18:(rd l1 x24_1) > ((rd_T74 l0_0 x24_1).f2)
          ·rw [if_pos c18] at H
           have c18b0:decide (((rd_T74 l0_0 x24_1).f2) < (rd l1 x24_1)) = true:=zQ c18
           clear c18
           simp only [Option.some.injEq,Prod.mk.injEq] at H
           obtain ⟨rfl,rfl⟩:=H
           have p319:0 ≤ (x24_1:Int):=zP (by assumption)
           have q319:x24_1 < (l0_0.length:Int):=zP (by assumption)
           obtain ⟨ad319,e319,hx319_0,hx319_1,hx319_2,hx319_3⟩:=at_T74 HR0_0.out x24_1 p319 q319
           cases e319
           replace hx319_0:=(HB.out.cell (zB w _ hx319_0)).trans hx319_0
           replace hx319_1:=(HB.out.cell (zB w _ hx319_1)).trans hx319_1
           replace hx319_2:=(HB.out.cell (zB w _ hx319_2)).trans hx319_2
           replace hx319_3:=(HB.out.cell (zB w _ hx319_3)).trans hx319_3
           replace p319:=eq_true p319
           replace q319:=eq_true q319
           go_wp2_with (first|((with_reducible refine zV (N:=9) rfl ?_);refine zW ?hg (N:=9) ?hd (cs:=#[.string (⟨#[]⟩:ByteArray),.int .i64 0,.int .i64 0,.int .i64 0]) (t:=74) ?hr ?_;(case hd=>rfl);(case hg=>rfl);(case hr=>first|(go_simp;done)|(go_simp;rfl));intro gb320 hg w19 hbox hb;have n0_:=zA (zN (g:=gb317) (o:=.cells #[.slice (some ad319) l0_0.length c0_0,.slice A0_1 l0_1.length c0_1] 25 (0,0)) (by (with_reducible repeat (first|refine zL ?_ _|refine zM ?_|refine zK ?_ _));exact BK317.out) hb);have n1_:=zA (zH (by repeat (first|(with_reducible first|exact HB.out|apply zD|apply zC|apply zE|refine zF ?_ GE317.out)|exact HB.out)) hb);have n2_:=zA (hbox);have n3_:=zA ((by rw [hg];exact (zG (by repeat (first|(with_reducible first|exact HB.out|apply zD|apply zC|apply zE|refine zF ?_ GE317.out)|exact HB.out))):w.heap.size ≤ gb320));have n4_:=zA ((by rw [hg];exact (zG (by repeat (first|(with_reducible first|exact HB.out|apply zD|apply zC|apply zE|refine zF ?_ GE317.out)|exact HB.out))):w.heap.size ≤ gb320));have n5_:=zA ((by rw [hg];exact Nat.ne_of_lt (blk_lt (g:=gb317) (o:=.cells #[.slice (some ad319) l0_0.length c0_0,.slice A0_1 l0_1.length c0_1] 25 (0,0)) (by (with_reducible repeat (first|refine zL ?_ _|refine zM ?_|refine zK ?_ _));exact BK317.out)):gb317 ≠ gb320));have n6_:=zA ((by rw [hg];exact Nat.ne_of_gt (blk_lt (g:=gb317) (o:=.cells #[.slice (some ad319) l0_0.length c0_0,.slice A0_1 l0_1.length c0_1] 25 (0,0)) (by (with_reducible repeat (first|refine zL ?_ _|refine zM ?_|refine zK ?_ _));exact BK317.out)):gb320 ≠ gb317));clear BK317;clear HB;have BK317:=n0_;have HB:=n1_;have BK320:=n2_;have GW320:=n3_;have GE320:=n4_;have NB317_320:=n5_;have NB320_317:=n6_;clear n0_ n1_ n2_ n3_ n4_ n5_ n6_;clear hb hbox hg;have hnb20:=NB320_317.out;have hnc20:=NB317_320.out;have hcz21_0:w19.cell? ⟨gb320,0,none⟩ = some (.string (⟨#[]⟩:ByteArray)):=(zI BK320.out 0).trans rfl;have hcz21_1:w19.cell? ⟨gb320,1,none⟩ = some (.int .i64 0):=(zI BK320.out 1).trans rfl;have hcz21_2:w19.cell? ⟨gb320,2,none⟩ = some (.int .i64 0):=(zI BK320.out 2).trans rfl;have hcz21_3:w19.cell? ⟨gb320,3,none⟩ = some (.int .i64 0):=(zI BK320.out 3).trans rfl;have hfz21_0:=zJ BK320.out 0;have hfz21_1:=zJ BK320.out 1;have hfz21_2:=zJ BK320.out 2;have hfz21_3:=zJ BK320.out 3;have p321:0 ≤ (x24_1:Int):=zP (by assumption);have q321:x24_1 < (l1.length:Int):=zP (by assumption);obtain ⟨ad321,e321,hx321_0⟩:=Kd.at_int HR1.out x24_1 p321 q321;cases e321;have hn321_0:ad321.block ≠ gb320:=Nat.ne_of_lt (zS (by have:=zB _ _ hx321_0;first|rwa [add_block] at this|exact this) GW320.out);have hn321_1:ad321.block ≠ gb320:=Nat.ne_of_lt (zS (by have:=zB _ _ hx321_0;first|rwa [add_block] at this|exact this) GW320.out);have hn321_2:ad321.block ≠ gb320:=Nat.ne_of_lt (zS (by have:=zB _ _ hx321_0;first|rwa [add_block] at this|exact this) GW320.out);have hn321_3:ad321.block ≠ gb320:=Nat.ne_of_lt (zS (by have:=zB _ _ hx321_0;first|rwa [add_block] at this|exact this) GW320.out);replace hx321_0:=(HB.out.cell (zB w _ hx321_0)).trans hx321_0;replace hx321_0:=(cell_far (p:=⟨gb320,0,none⟩) (by first|(rw [add_block];exact hn321_0)|(show (Addr.add _ _).block ≠ _;rw [add_block];exact hn321_0)|exact hn321_0) (.string ((rd_T74 l0_0 x24_1).f0))).trans hx321_0;replace hx321_0:=(cell_far (p:=⟨gb320,1,none⟩) (by first|(rw [add_block];exact hn321_1)|(show (Addr.add _ _).block ≠ _;rw [add_block];exact hn321_1)|exact hn321_1) (.int .i64 ((rd_T74 l0_0 x24_1).f1))).trans hx321_0;replace hx321_0:=(cell_far (p:=⟨gb320,2,none⟩) (by first|(rw [add_block];exact hn321_2)|(show (Addr.add _ _).block ≠ _;rw [add_block];exact hn321_2)|exact hn321_2) (.int .i64 ((rd_T74 l0_0 x24_1).f2))).trans hx321_0;replace hx321_0:=(cell_far (p:=⟨gb320,3,none⟩) (by first|(rw [add_block];exact hn321_3)|(show (Addr.add _ _).block ≠ _;rw [add_block];exact hn321_3)|exact hn321_3) (.int .i64 ((rd_T74 l0_0 x24_1).f3))).trans hx321_0;(try have hy321_0:=fun (n_:Nat)=>(show ((((((w19.drewN n_).setCell ⟨gb320,0,none⟩ (.string ((rd_T74 l0_0 x24_1).f0))).setCell ⟨gb320,1,none⟩ (.int .i64 ((rd_T74 l0_0 x24_1).f1))).setCell ⟨gb320,2,none⟩ (.int .i64 ((rd_T74 l0_0 x24_1).f2))).setCell ⟨gb320,3,none⟩ (.int .i64 ((rd_T74 l0_0 x24_1).f3)))).cell? _ = some _ from hx321_0));clear hn321_0;clear hn321_1;clear hn321_2;clear hn321_3;replace p321:=eq_true p321;replace q321:=eq_true q321;have p322:0 ≤ (x24_1:Int):=zP (by assumption);have q322:x24_1 < (l1.length:Int):=zP (by assumption);obtain ⟨ad322,e322,hx322_0⟩:=Kd.at_int HR1.out x24_1 p322 q322;obtain rfl:ad321 = ad322:=(by injection e322);have hn322_0:ad321.block ≠ gb320:=Nat.ne_of_lt (zS (by have:=zB _ _ hx322_0;first|rwa [add_block] at this|exact this) GW320.out);have hn322_1:ad321.block ≠ gb320:=Nat.ne_of_lt (zS (by have:=zB _ _ hx322_0;first|rwa [add_block] at this|exact this) GW320.out);have hn322_2:ad321.block ≠ gb320:=Nat.ne_of_lt (zS (by have:=zB _ _ hx322_0;first|rwa [add_block] at this|exact this) GW320.out);have hn322_3:ad321.block ≠ gb320:=Nat.ne_of_lt (zS (by have:=zB _ _ hx322_0;first|rwa [add_block] at this|exact this) GW320.out);replace hx322_0:=(HB.out.cell (zB w _ hx322_0)).trans hx322_0;replace hx322_0:=(cell_far (p:=⟨gb320,0,none⟩) (by first|(rw [add_block];exact hn322_0)|(show (Addr.add _ _).block ≠ _;rw [add_block];exact hn322_0)|exact hn322_0) (.string ((rd_T74 l0_0 x24_1).f0))).trans hx322_0;replace hx322_0:=(cell_far (p:=⟨gb320,1,none⟩) (by first|(rw [add_block];exact hn322_1)|(show (Addr.add _ _).block ≠ _;rw [add_block];exact hn322_1)|exact hn322_1) (.int .i64 ((rd_T74 l0_0 x24_1).f1))).trans hx322_0;replace hx322_0:=(cell_far (p:=⟨gb320,2,none⟩) (by first|(rw [add_block];exact hn322_2)|(show (Addr.add _ _).block ≠ _;rw [add_block];exact hn322_2)|exact hn322_2) (.int .i64 ((rd_T74 l0_0 x24_1).f2))).trans hx322_0;replace hx322_0:=(cell_far (p:=⟨gb320,3,none⟩) (by first|(rw [add_block];exact hn322_3)|(show (Addr.add _ _).block ≠ _;rw [add_block];exact hn322_3)|exact hn322_3) (.int .i64 ((rd_T74 l0_0 x24_1).f3))).trans hx322_0;(try have hy322_0:=fun (n_:Nat)=>(show ((((((w19.drewN n_).setCell ⟨gb320,0,none⟩ (.string ((rd_T74 l0_0 x24_1).f0))).setCell ⟨gb320,1,none⟩ (.int .i64 ((rd_T74 l0_0 x24_1).f1))).setCell ⟨gb320,2,none⟩ (.int .i64 ((rd_T74 l0_0 x24_1).f2))).setCell ⟨gb320,3,none⟩ (.int .i64 ((rd_T74 l0_0 x24_1).f3)))).cell? _ = some _ from hx322_0));clear hn322_0;clear hn322_1;clear hn322_2;clear hn322_3;replace p322:=eq_true p322;replace q322:=eq_true q322))
           repeat (go_quiet (first|((with_reducible refine zV (N:=9) rfl ?_);refine zW ?hg (N:=9) ?hd (cs:=#[.string (⟨#[]⟩:ByteArray),.int .i64 0,.int .i64 0,.int .i64 0]) (t:=74) ?hr ?_;(case hd=>rfl);(case hg=>rfl);(case hr=>first|(go_simp;done)|(go_simp;rfl));intro gb320 hg w19 hbox hb;have n0_:=zA (zN (g:=gb317) (o:=.cells #[.slice (some ad319) l0_0.length c0_0,.slice A0_1 l0_1.length c0_1] 25 (0,0)) (by (with_reducible repeat (first|refine zL ?_ _|refine zM ?_|refine zK ?_ _));exact BK317.out) hb);have n1_:=zA (zH (by repeat (first|(with_reducible first|exact HB.out|apply zD|apply zC|apply zE|refine zF ?_ GE317.out)|exact HB.out)) hb);have n2_:=zA (hbox);have n3_:=zA ((by rw [hg];exact (zG (by repeat (first|(with_reducible first|exact HB.out|apply zD|apply zC|apply zE|refine zF ?_ GE317.out)|exact HB.out))):w.heap.size ≤ gb320));have n4_:=zA ((by rw [hg];exact (zG (by repeat (first|(with_reducible first|exact HB.out|apply zD|apply zC|apply zE|refine zF ?_ GE317.out)|exact HB.out))):w.heap.size ≤ gb320));have n5_:=zA ((by rw [hg];exact Nat.ne_of_lt (blk_lt (g:=gb317) (o:=.cells #[.slice (some ad319) l0_0.length c0_0,.slice A0_1 l0_1.length c0_1] 25 (0,0)) (by (with_reducible repeat (first|refine zL ?_ _|refine zM ?_|refine zK ?_ _));exact BK317.out)):gb317 ≠ gb320));have n6_:=zA ((by rw [hg];exact Nat.ne_of_gt (blk_lt (g:=gb317) (o:=.cells #[.slice (some ad319) l0_0.length c0_0,.slice A0_1 l0_1.length c0_1] 25 (0,0)) (by (with_reducible repeat (first|refine zL ?_ _|refine zM ?_|refine zK ?_ _));exact BK317.out)):gb320 ≠ gb317));clear BK317;clear HB;have BK317:=n0_;have HB:=n1_;have BK320:=n2_;have GW320:=n3_;have GE320:=n4_;have NB317_320:=n5_;have NB320_317:=n6_;clear n0_ n1_ n2_ n3_ n4_ n5_ n6_;clear hb hbox hg;have hnb20:=NB320_317.out;have hnc20:=NB317_320.out;have hcz21_0:w19.cell? ⟨gb320,0,none⟩ = some (.string (⟨#[]⟩:ByteArray)):=(zI BK320.out 0).trans rfl;have hcz21_1:w19.cell? ⟨gb320,1,none⟩ = some (.int .i64 0):=(zI BK320.out 1).trans rfl;have hcz21_2:w19.cell? ⟨gb320,2,none⟩ = some (.int .i64 0):=(zI BK320.out 2).trans rfl;have hcz21_3:w19.cell? ⟨gb320,3,none⟩ = some (.int .i64 0):=(zI BK320.out 3).trans rfl;have hfz21_0:=zJ BK320.out 0;have hfz21_1:=zJ BK320.out 1;have hfz21_2:=zJ BK320.out 2;have hfz21_3:=zJ BK320.out 3;have p321:0 ≤ (x24_1:Int):=zP (by assumption);have q321:x24_1 < (l1.length:Int):=zP (by assumption);obtain ⟨ad321,e321,hx321_0⟩:=Kd.at_int HR1.out x24_1 p321 q321;cases e321;have hn321_0:ad321.block ≠ gb320:=Nat.ne_of_lt (zS (by have:=zB _ _ hx321_0;first|rwa [add_block] at this|exact this) GW320.out);have hn321_1:ad321.block ≠ gb320:=Nat.ne_of_lt (zS (by have:=zB _ _ hx321_0;first|rwa [add_block] at this|exact this) GW320.out);have hn321_2:ad321.block ≠ gb320:=Nat.ne_of_lt (zS (by have:=zB _ _ hx321_0;first|rwa [add_block] at this|exact this) GW320.out);have hn321_3:ad321.block ≠ gb320:=Nat.ne_of_lt (zS (by have:=zB _ _ hx321_0;first|rwa [add_block] at this|exact this) GW320.out);replace hx321_0:=(HB.out.cell (zB w _ hx321_0)).trans hx321_0;replace hx321_0:=(cell_far (p:=⟨gb320,0,none⟩) (by first|(rw [add_block];exact hn321_0)|(show (Addr.add _ _).block ≠ _;rw [add_block];exact hn321_0)|exact hn321_0) (.string ((rd_T74 l0_0 x24_1).f0))).trans hx321_0;replace hx321_0:=(cell_far (p:=⟨gb320,1,none⟩) (by first|(rw [add_block];exact hn321_1)|(show (Addr.add _ _).block ≠ _;rw [add_block];exact hn321_1)|exact hn321_1) (.int .i64 ((rd_T74 l0_0 x24_1).f1))).trans hx321_0;replace hx321_0:=(cell_far (p:=⟨gb320,2,none⟩) (by first|(rw [add_block];exact hn321_2)|(show (Addr.add _ _).block ≠ _;rw [add_block];exact hn321_2)|exact hn321_2) (.int .i64 ((rd_T74 l0_0 x24_1).f2))).trans hx321_0;replace hx321_0:=(cell_far (p:=⟨gb320,3,none⟩) (by first|(rw [add_block];exact hn321_3)|(show (Addr.add _ _).block ≠ _;rw [add_block];exact hn321_3)|exact hn321_3) (.int .i64 ((rd_T74 l0_0 x24_1).f3))).trans hx321_0;(try have hy321_0:=fun (n_:Nat)=>(show ((((((w19.drewN n_).setCell ⟨gb320,0,none⟩ (.string ((rd_T74 l0_0 x24_1).f0))).setCell ⟨gb320,1,none⟩ (.int .i64 ((rd_T74 l0_0 x24_1).f1))).setCell ⟨gb320,2,none⟩ (.int .i64 ((rd_T74 l0_0 x24_1).f2))).setCell ⟨gb320,3,none⟩ (.int .i64 ((rd_T74 l0_0 x24_1).f3)))).cell? _ = some _ from hx321_0));clear hn321_0;clear hn321_1;clear hn321_2;clear hn321_3;replace p321:=eq_true p321;replace q321:=eq_true q321;have p322:0 ≤ (x24_1:Int):=zP (by assumption);have q322:x24_1 < (l1.length:Int):=zP (by assumption);obtain ⟨ad322,e322,hx322_0⟩:=Kd.at_int HR1.out x24_1 p322 q322;obtain rfl:ad321 = ad322:=(by injection e322);have hn322_0:ad321.block ≠ gb320:=Nat.ne_of_lt (zS (by have:=zB _ _ hx322_0;first|rwa [add_block] at this|exact this) GW320.out);have hn322_1:ad321.block ≠ gb320:=Nat.ne_of_lt (zS (by have:=zB _ _ hx322_0;first|rwa [add_block] at this|exact this) GW320.out);have hn322_2:ad321.block ≠ gb320:=Nat.ne_of_lt (zS (by have:=zB _ _ hx322_0;first|rwa [add_block] at this|exact this) GW320.out);have hn322_3:ad321.block ≠ gb320:=Nat.ne_of_lt (zS (by have:=zB _ _ hx322_0;first|rwa [add_block] at this|exact this) GW320.out);replace hx322_0:=(HB.out.cell (zB w _ hx322_0)).trans hx322_0;replace hx322_0:=(cell_far (p:=⟨gb320,0,none⟩) (by first|(rw [add_block];exact hn322_0)|(show (Addr.add _ _).block ≠ _;rw [add_block];exact hn322_0)|exact hn322_0) (.string ((rd_T74 l0_0 x24_1).f0))).trans hx322_0;replace hx322_0:=(cell_far (p:=⟨gb320,1,none⟩) (by first|(rw [add_block];exact hn322_1)|(show (Addr.add _ _).block ≠ _;rw [add_block];exact hn322_1)|exact hn322_1) (.int .i64 ((rd_T74 l0_0 x24_1).f1))).trans hx322_0;replace hx322_0:=(cell_far (p:=⟨gb320,2,none⟩) (by first|(rw [add_block];exact hn322_2)|(show (Addr.add _ _).block ≠ _;rw [add_block];exact hn322_2)|exact hn322_2) (.int .i64 ((rd_T74 l0_0 x24_1).f2))).trans hx322_0;replace hx322_0:=(cell_far (p:=⟨gb320,3,none⟩) (by first|(rw [add_block];exact hn322_3)|(show (Addr.add _ _).block ≠ _;rw [add_block];exact hn322_3)|exact hn322_3) (.int .i64 ((rd_T74 l0_0 x24_1).f3))).trans hx322_0;(try have hy322_0:=fun (n_:Nat)=>(show ((((((w19.drewN n_).setCell ⟨gb320,0,none⟩ (.string ((rd_T74 l0_0 x24_1).f0))).setCell ⟨gb320,1,none⟩ (.int .i64 ((rd_T74 l0_0 x24_1).f1))).setCell ⟨gb320,2,none⟩ (.int .i64 ((rd_T74 l0_0 x24_1).f2))).setCell ⟨gb320,3,none⟩ (.int .i64 ((rd_T74 l0_0 x24_1).f3)))).cell? _ = some _ from hx322_0));clear hn322_0;clear hn322_1;clear hn322_2;clear hn322_3;replace p322:=eq_true p322;replace q322:=eq_true q322));try go_wp2_with (first|((with_reducible refine zV (N:=9) rfl ?_);refine zW ?hg (N:=9) ?hd (cs:=#[.string (⟨#[]⟩:ByteArray),.int .i64 0,.int .i64 0,.int .i64 0]) (t:=74) ?hr ?_;(case hd=>rfl);(case hg=>rfl);(case hr=>first|(go_simp;done)|(go_simp;rfl));intro gb320 hg w19 hbox hb;have n0_:=zA (zN (g:=gb317) (o:=.cells #[.slice (some ad319) l0_0.length c0_0,.slice A0_1 l0_1.length c0_1] 25 (0,0)) (by (with_reducible repeat (first|refine zL ?_ _|refine zM ?_|refine zK ?_ _));exact BK317.out) hb);have n1_:=zA (zH (by repeat (first|(with_reducible first|exact HB.out|apply zD|apply zC|apply zE|refine zF ?_ GE317.out)|exact HB.out)) hb);have n2_:=zA (hbox);have n3_:=zA ((by rw [hg];exact (zG (by repeat (first|(with_reducible first|exact HB.out|apply zD|apply zC|apply zE|refine zF ?_ GE317.out)|exact HB.out))):w.heap.size ≤ gb320));have n4_:=zA ((by rw [hg];exact (zG (by repeat (first|(with_reducible first|exact HB.out|apply zD|apply zC|apply zE|refine zF ?_ GE317.out)|exact HB.out))):w.heap.size ≤ gb320));have n5_:=zA ((by rw [hg];exact Nat.ne_of_lt (blk_lt (g:=gb317) (o:=.cells #[.slice (some ad319) l0_0.length c0_0,.slice A0_1 l0_1.length c0_1] 25 (0,0)) (by (with_reducible repeat (first|refine zL ?_ _|refine zM ?_|refine zK ?_ _));exact BK317.out)):gb317 ≠ gb320));have n6_:=zA ((by rw [hg];exact Nat.ne_of_gt (blk_lt (g:=gb317) (o:=.cells #[.slice (some ad319) l0_0.length c0_0,.slice A0_1 l0_1.length c0_1] 25 (0,0)) (by (with_reducible repeat (first|refine zL ?_ _|refine zM ?_|refine zK ?_ _));exact BK317.out)):gb320 ≠ gb317));clear BK317;clear HB;have BK317:=n0_;have HB:=n1_;have BK320:=n2_;have GW320:=n3_;have GE320:=n4_;have NB317_320:=n5_;have NB320_317:=n6_;clear n0_ n1_ n2_ n3_ n4_ n5_ n6_;clear hb hbox hg;have hnb20:=NB320_317.out;have hnc20:=NB317_320.out;have hcz21_0:w19.cell? ⟨gb320,0,none⟩ = some (.string (⟨#[]⟩:ByteArray)):=(zI BK320.out 0).trans rfl;have hcz21_1:w19.cell? ⟨gb320,1,none⟩ = some (.int .i64 0):=(zI BK320.out 1).trans rfl;have hcz21_2:w19.cell? ⟨gb320,2,none⟩ = some (.int .i64 0):=(zI BK320.out 2).trans rfl;have hcz21_3:w19.cell? ⟨gb320,3,none⟩ = some (.int .i64 0):=(zI BK320.out 3).trans rfl;have hfz21_0:=zJ BK320.out 0;have hfz21_1:=zJ BK320.out 1;have hfz21_2:=zJ BK320.out 2;have hfz21_3:=zJ BK320.out 3;have p321:0 ≤ (x24_1:Int):=zP (by assumption);have q321:x24_1 < (l1.length:Int):=zP (by assumption);obtain ⟨ad321,e321,hx321_0⟩:=Kd.at_int HR1.out x24_1 p321 q321;cases e321;have hn321_0:ad321.block ≠ gb320:=Nat.ne_of_lt (zS (by have:=zB _ _ hx321_0;first|rwa [add_block] at this|exact this) GW320.out);have hn321_1:ad321.block ≠ gb320:=Nat.ne_of_lt (zS (by have:=zB _ _ hx321_0;first|rwa [add_block] at this|exact this) GW320.out);have hn321_2:ad321.block ≠ gb320:=Nat.ne_of_lt (zS (by have:=zB _ _ hx321_0;first|rwa [add_block] at this|exact this) GW320.out);have hn321_3:ad321.block ≠ gb320:=Nat.ne_of_lt (zS (by have:=zB _ _ hx321_0;first|rwa [add_block] at this|exact this) GW320.out);replace hx321_0:=(HB.out.cell (zB w _ hx321_0)).trans hx321_0;replace hx321_0:=(cell_far (p:=⟨gb320,0,none⟩) (by first|(rw [add_block];exact hn321_0)|(show (Addr.add _ _).block ≠ _;rw [add_block];exact hn321_0)|exact hn321_0) (.string ((rd_T74 l0_0 x24_1).f0))).trans hx321_0;replace hx321_0:=(cell_far (p:=⟨gb320,1,none⟩) (by first|(rw [add_block];exact hn321_1)|(show (Addr.add _ _).block ≠ _;rw [add_block];exact hn321_1)|exact hn321_1) (.int .i64 ((rd_T74 l0_0 x24_1).f1))).trans hx321_0;replace hx321_0:=(cell_far (p:=⟨gb320,2,none⟩) (by first|(rw [add_block];exact hn321_2)|(show (Addr.add _ _).block ≠ _;rw [add_block];exact hn321_2)|exact hn321_2) (.int .i64 ((rd_T74 l0_0 x24_1).f2))).trans hx321_0;replace hx321_0:=(cell_far (p:=⟨gb320,3,none⟩) (by first|(rw [add_block];exact hn321_3)|(show (Addr.add _ _).block ≠ _;rw [add_block];exact hn321_3)|exact hn321_3) (.int .i64 ((rd_T74 l0_0 x24_1).f3))).trans hx321_0;(try have hy321_0:=fun (n_:Nat)=>(show ((((((w19.drewN n_).setCell ⟨gb320,0,none⟩ (.string ((rd_T74 l0_0 x24_1).f0))).setCell ⟨gb320,1,none⟩ (.int .i64 ((rd_T74 l0_0 x24_1).f1))).setCell ⟨gb320,2,none⟩ (.int .i64 ((rd_T74 l0_0 x24_1).f2))).setCell ⟨gb320,3,none⟩ (.int .i64 ((rd_T74 l0_0 x24_1).f3)))).cell? _ = some _ from hx321_0));clear hn321_0;clear hn321_1;clear hn321_2;clear hn321_3;replace p321:=eq_true p321;replace q321:=eq_true q321;have p322:0 ≤ (x24_1:Int):=zP (by assumption);have q322:x24_1 < (l1.length:Int):=zP (by assumption);obtain ⟨ad322,e322,hx322_0⟩:=Kd.at_int HR1.out x24_1 p322 q322;obtain rfl:ad321 = ad322:=(by injection e322);have hn322_0:ad321.block ≠ gb320:=Nat.ne_of_lt (zS (by have:=zB _ _ hx322_0;first|rwa [add_block] at this|exact this) GW320.out);have hn322_1:ad321.block ≠ gb320:=Nat.ne_of_lt (zS (by have:=zB _ _ hx322_0;first|rwa [add_block] at this|exact this) GW320.out);have hn322_2:ad321.block ≠ gb320:=Nat.ne_of_lt (zS (by have:=zB _ _ hx322_0;first|rwa [add_block] at this|exact this) GW320.out);have hn322_3:ad321.block ≠ gb320:=Nat.ne_of_lt (zS (by have:=zB _ _ hx322_0;first|rwa [add_block] at this|exact this) GW320.out);replace hx322_0:=(HB.out.cell (zB w _ hx322_0)).trans hx322_0;replace hx322_0:=(cell_far (p:=⟨gb320,0,none⟩) (by first|(rw [add_block];exact hn322_0)|(show (Addr.add _ _).block ≠ _;rw [add_block];exact hn322_0)|exact hn322_0) (.string ((rd_T74 l0_0 x24_1).f0))).trans hx322_0;replace hx322_0:=(cell_far (p:=⟨gb320,1,none⟩) (by first|(rw [add_block];exact hn322_1)|(show (Addr.add _ _).block ≠ _;rw [add_block];exact hn322_1)|exact hn322_1) (.int .i64 ((rd_T74 l0_0 x24_1).f1))).trans hx322_0;replace hx322_0:=(cell_far (p:=⟨gb320,2,none⟩) (by first|(rw [add_block];exact hn322_2)|(show (Addr.add _ _).block ≠ _;rw [add_block];exact hn322_2)|exact hn322_2) (.int .i64 ((rd_T74 l0_0 x24_1).f2))).trans hx322_0;replace hx322_0:=(cell_far (p:=⟨gb320,3,none⟩) (by first|(rw [add_block];exact hn322_3)|(show (Addr.add _ _).block ≠ _;rw [add_block];exact hn322_3)|exact hn322_3) (.int .i64 ((rd_T74 l0_0 x24_1).f3))).trans hx322_0;(try have hy322_0:=fun (n_:Nat)=>(show ((((((w19.drewN n_).setCell ⟨gb320,0,none⟩ (.string ((rd_T74 l0_0 x24_1).f0))).setCell ⟨gb320,1,none⟩ (.int .i64 ((rd_T74 l0_0 x24_1).f1))).setCell ⟨gb320,2,none⟩ (.int .i64 ((rd_T74 l0_0 x24_1).f2))).setCell ⟨gb320,3,none⟩ (.int .i64 ((rd_T74 l0_0 x24_1).f3)))).cell? _ = some _ from hx322_0));clear hn322_0;clear hn322_1;clear hn322_2;clear hn322_3;replace p322:=eq_true p322;replace q322:=eq_true q322)))
           go_ret2
           exact ⟨by first|rfl|(simp [errW_none,errW_some] <;> rfl)|(simp [*,errW_none,errW_some] <;> rfl),by repeat (first|(with_reducible first|exact HB.out|apply zD|apply zC|apply zE|refine zF ?_ GE317.out|refine zF ?_ GE320.out)|exact HB.out)⟩
          ·rw [if_neg c18] at H
           have c18b0:decide (((rd_T74 l0_0 x24_1).f2) < (rd l1 x24_1)) = false:=zR c18
           clear c18
           have H':=zA H
           clear H
           have p319:0 ≤ (x24_1:Int):=zP (by assumption)
           have q319:x24_1 < (l0_0.length:Int):=zP (by assumption)
           obtain ⟨ad319,e319,hx319_0,hx319_1,hx319_2,hx319_3⟩:=at_T74 HR0_0.out x24_1 p319 q319
           cases e319
           replace hx319_0:=(HB.out.cell (zB w _ hx319_0)).trans hx319_0
           replace hx319_1:=(HB.out.cell (zB w _ hx319_1)).trans hx319_1
           replace hx319_2:=(HB.out.cell (zB w _ hx319_2)).trans hx319_2
           replace hx319_3:=(HB.out.cell (zB w _ hx319_3)).trans hx319_3
           replace p319:=eq_true p319
           replace q319:=eq_true q319
           go_wp2_with (first|((with_reducible refine zV (N:=9) rfl ?_);refine zW ?hg (N:=9) ?hd (cs:=#[.string (⟨#[]⟩:ByteArray),.int .i64 0,.int .i64 0,.int .i64 0]) (t:=74) ?hr ?_;(case hd=>rfl);(case hg=>rfl);(case hr=>first|(go_simp;done)|(go_simp;rfl));intro gb320 hg w22 hbox hb;have n0_:=zA (zN (g:=gb317) (o:=.cells #[.slice (some ad319) l0_0.length c0_0,.slice A0_1 l0_1.length c0_1] 25 (0,0)) (by (with_reducible repeat (first|refine zL ?_ _|refine zM ?_|refine zK ?_ _));exact BK317.out) hb);have n1_:=zA (zH (by repeat (first|(with_reducible first|exact HB.out|apply zD|apply zC|apply zE|refine zF ?_ GE317.out)|exact HB.out)) hb);have n2_:=zA (hbox);have n3_:=zA ((by rw [hg];exact (zG (by repeat (first|(with_reducible first|exact HB.out|apply zD|apply zC|apply zE|refine zF ?_ GE317.out)|exact HB.out))):w.heap.size ≤ gb320));have n4_:=zA ((by rw [hg];exact (zG (by repeat (first|(with_reducible first|exact HB.out|apply zD|apply zC|apply zE|refine zF ?_ GE317.out)|exact HB.out))):w.heap.size ≤ gb320));have n5_:=zA ((by rw [hg];exact Nat.ne_of_lt (blk_lt (g:=gb317) (o:=.cells #[.slice (some ad319) l0_0.length c0_0,.slice A0_1 l0_1.length c0_1] 25 (0,0)) (by (with_reducible repeat (first|refine zL ?_ _|refine zM ?_|refine zK ?_ _));exact BK317.out)):gb317 ≠ gb320));have n6_:=zA ((by rw [hg];exact Nat.ne_of_gt (blk_lt (g:=gb317) (o:=.cells #[.slice (some ad319) l0_0.length c0_0,.slice A0_1 l0_1.length c0_1] 25 (0,0)) (by (with_reducible repeat (first|refine zL ?_ _|refine zM ?_|refine zK ?_ _));exact BK317.out)):gb320 ≠ gb317));clear BK317;clear HB;have BK317:=n0_;have HB:=n1_;have BK320:=n2_;have GW320:=n3_;have GE320:=n4_;have NB317_320:=n5_;have NB320_317:=n6_;clear n0_ n1_ n2_ n3_ n4_ n5_ n6_;clear hb hbox hg;have hnb23:=NB320_317.out;have hnc23:=NB317_320.out;have hcz24_0:w22.cell? ⟨gb320,0,none⟩ = some (.string (⟨#[]⟩:ByteArray)):=(zI BK320.out 0).trans rfl;have hcz24_1:w22.cell? ⟨gb320,1,none⟩ = some (.int .i64 0):=(zI BK320.out 1).trans rfl;have hcz24_2:w22.cell? ⟨gb320,2,none⟩ = some (.int .i64 0):=(zI BK320.out 2).trans rfl;have hcz24_3:w22.cell? ⟨gb320,3,none⟩ = some (.int .i64 0):=(zI BK320.out 3).trans rfl;have hfz24_0:=zJ BK320.out 0;have hfz24_1:=zJ BK320.out 1;have hfz24_2:=zJ BK320.out 2;have hfz24_3:=zJ BK320.out 3;have p321:0 ≤ (x24_1:Int):=zP (by assumption);have q321:x24_1 < (l1.length:Int):=zP (by assumption);obtain ⟨ad321,e321,hx321_0⟩:=Kd.at_int HR1.out x24_1 p321 q321;cases e321;have hn321_0:ad321.block ≠ gb320:=Nat.ne_of_lt (zS (by have:=zB _ _ hx321_0;first|rwa [add_block] at this|exact this) GW320.out);have hn321_1:ad321.block ≠ gb320:=Nat.ne_of_lt (zS (by have:=zB _ _ hx321_0;first|rwa [add_block] at this|exact this) GW320.out);have hn321_2:ad321.block ≠ gb320:=Nat.ne_of_lt (zS (by have:=zB _ _ hx321_0;first|rwa [add_block] at this|exact this) GW320.out);have hn321_3:ad321.block ≠ gb320:=Nat.ne_of_lt (zS (by have:=zB _ _ hx321_0;first|rwa [add_block] at this|exact this) GW320.out);replace hx321_0:=(HB.out.cell (zB w _ hx321_0)).trans hx321_0;replace hx321_0:=(cell_far (p:=⟨gb320,0,none⟩) (by first|(rw [add_block];exact hn321_0)|(show (Addr.add _ _).block ≠ _;rw [add_block];exact hn321_0)|exact hn321_0) (.string ((rd_T74 l0_0 x24_1).f0))).trans hx321_0;replace hx321_0:=(cell_far (p:=⟨gb320,1,none⟩) (by first|(rw [add_block];exact hn321_1)|(show (Addr.add _ _).block ≠ _;rw [add_block];exact hn321_1)|exact hn321_1) (.int .i64 ((rd_T74 l0_0 x24_1).f1))).trans hx321_0;replace hx321_0:=(cell_far (p:=⟨gb320,2,none⟩) (by first|(rw [add_block];exact hn321_2)|(show (Addr.add _ _).block ≠ _;rw [add_block];exact hn321_2)|exact hn321_2) (.int .i64 ((rd_T74 l0_0 x24_1).f2))).trans hx321_0;replace hx321_0:=(cell_far (p:=⟨gb320,3,none⟩) (by first|(rw [add_block];exact hn321_3)|(show (Addr.add _ _).block ≠ _;rw [add_block];exact hn321_3)|exact hn321_3) (.int .i64 ((rd_T74 l0_0 x24_1).f3))).trans hx321_0;(try have hy321_0:=fun (n_:Nat)=>(show ((((((w22.drewN n_).setCell ⟨gb320,0,none⟩ (.string ((rd_T74 l0_0 x24_1).f0))).setCell ⟨gb320,1,none⟩ (.int .i64 ((rd_T74 l0_0 x24_1).f1))).setCell ⟨gb320,2,none⟩ (.int .i64 ((rd_T74 l0_0 x24_1).f2))).setCell ⟨gb320,3,none⟩ (.int .i64 ((rd_T74 l0_0 x24_1).f3)))).cell? _ = some _ from hx321_0));clear hn321_0;clear hn321_1;clear hn321_2;clear hn321_3;replace p321:=eq_true p321;replace q321:=eq_true q321;have p322:0 ≤ (x24_1:Int):=zP (by assumption);have q322:x24_1 < (l1.length:Int):=zP (by assumption);obtain ⟨ad322,e322,hx322_0⟩:=Kd.at_int HR1.out x24_1 p322 q322;obtain rfl:ad321 = ad322:=(by injection e322);have hn322_0:ad321.block ≠ gb320:=Nat.ne_of_lt (zS (by have:=zB _ _ hx322_0;first|rwa [add_block] at this|exact this) GW320.out);have hn322_1:ad321.block ≠ gb320:=Nat.ne_of_lt (zS (by have:=zB _ _ hx322_0;first|rwa [add_block] at this|exact this) GW320.out);have hn322_2:ad321.block ≠ gb320:=Nat.ne_of_lt (zS (by have:=zB _ _ hx322_0;first|rwa [add_block] at this|exact this) GW320.out);have hn322_3:ad321.block ≠ gb320:=Nat.ne_of_lt (zS (by have:=zB _ _ hx322_0;first|rwa [add_block] at this|exact this) GW320.out);replace hx322_0:=(HB.out.cell (zB w _ hx322_0)).trans hx322_0;replace hx322_0:=(cell_far (p:=⟨gb320,0,none⟩) (by first|(rw [add_block];exact hn322_0)|(show (Addr.add _ _).block ≠ _;rw [add_block];exact hn322_0)|exact hn322_0) (.string ((rd_T74 l0_0 x24_1).f0))).trans hx322_0;replace hx322_0:=(cell_far (p:=⟨gb320,1,none⟩) (by first|(rw [add_block];exact hn322_1)|(show (Addr.add _ _).block ≠ _;rw [add_block];exact hn322_1)|exact hn322_1) (.int .i64 ((rd_T74 l0_0 x24_1).f1))).trans hx322_0;replace hx322_0:=(cell_far (p:=⟨gb320,2,none⟩) (by first|(rw [add_block];exact hn322_2)|(show (Addr.add _ _).block ≠ _;rw [add_block];exact hn322_2)|exact hn322_2) (.int .i64 ((rd_T74 l0_0 x24_1).f2))).trans hx322_0;replace hx322_0:=(cell_far (p:=⟨gb320,3,none⟩) (by first|(rw [add_block];exact hn322_3)|(show (Addr.add _ _).block ≠ _;rw [add_block];exact hn322_3)|exact hn322_3) (.int .i64 ((rd_T74 l0_0 x24_1).f3))).trans hx322_0;(try have hy322_0:=fun (n_:Nat)=>(show ((((((w22.drewN n_).setCell ⟨gb320,0,none⟩ (.string ((rd_T74 l0_0 x24_1).f0))).setCell ⟨gb320,1,none⟩ (.int .i64 ((rd_T74 l0_0 x24_1).f1))).setCell ⟨gb320,2,none⟩ (.int .i64 ((rd_T74 l0_0 x24_1).f2))).setCell ⟨gb320,3,none⟩ (.int .i64 ((rd_T74 l0_0 x24_1).f3)))).cell? _ = some _ from hx322_0));clear hn322_0;clear hn322_1;clear hn322_2;clear hn322_3;replace p322:=eq_true p322;replace q322:=eq_true q322;have p323:0 ≤ (x24_1:Int):=zP (by assumption);have q323:x24_1 < (l1.length:Int):=zP (by assumption);obtain ⟨ad323,e323,hx323_0⟩:=Kd.at_int HR1.out x24_1 p323 q323;obtain rfl:ad321 = ad323:=(by injection e323);have hn323_0:ad321.block ≠ gb320:=Nat.ne_of_lt (zS (by have:=zB _ _ hx323_0;first|rwa [add_block] at this|exact this) GW320.out);have hn323_1:ad321.block ≠ gb320:=Nat.ne_of_lt (zS (by have:=zB _ _ hx323_0;first|rwa [add_block] at this|exact this) GW320.out);have hn323_2:ad321.block ≠ gb320:=Nat.ne_of_lt (zS (by have:=zB _ _ hx323_0;first|rwa [add_block] at this|exact this) GW320.out);have hn323_3:ad321.block ≠ gb320:=Nat.ne_of_lt (zS (by have:=zB _ _ hx323_0;first|rwa [add_block] at this|exact this) GW320.out);replace hx323_0:=(HB.out.cell (zB w _ hx323_0)).trans hx323_0;replace hx323_0:=(cell_far (p:=⟨gb320,0,none⟩) (by first|(rw [add_block];exact hn323_0)|(show (Addr.add _ _).block ≠ _;rw [add_block];exact hn323_0)|exact hn323_0) (.string ((rd_T74 l0_0 x24_1).f0))).trans hx323_0;replace hx323_0:=(cell_far (p:=⟨gb320,1,none⟩) (by first|(rw [add_block];exact hn323_1)|(show (Addr.add _ _).block ≠ _;rw [add_block];exact hn323_1)|exact hn323_1) (.int .i64 ((rd_T74 l0_0 x24_1).f1))).trans hx323_0;replace hx323_0:=(cell_far (p:=⟨gb320,2,none⟩) (by first|(rw [add_block];exact hn323_2)|(show (Addr.add _ _).block ≠ _;rw [add_block];exact hn323_2)|exact hn323_2) (.int .i64 ((rd_T74 l0_0 x24_1).f2))).trans hx323_0;replace hx323_0:=(cell_far (p:=⟨gb320,3,none⟩) (by first|(rw [add_block];exact hn323_3)|(show (Addr.add _ _).block ≠ _;rw [add_block];exact hn323_3)|exact hn323_3) (.int .i64 ((rd_T74 l0_0 x24_1).f3))).trans hx323_0;(try have hy323_0:=fun (n_:Nat)=>(show ((((((w22.drewN n_).setCell ⟨gb320,0,none⟩ (.string ((rd_T74 l0_0 x24_1).f0))).setCell ⟨gb320,1,none⟩ (.int .i64 ((rd_T74 l0_0 x24_1).f1))).setCell ⟨gb320,2,none⟩ (.int .i64 ((rd_T74 l0_0 x24_1).f2))).setCell ⟨gb320,3,none⟩ (.int .i64 ((rd_T74 l0_0 x24_1).f3)))).cell? _ = some _ from hx323_0));clear hn323_0;clear hn323_1;clear hn323_2;clear hn323_3;replace p323:=eq_true p323;replace q323:=eq_true q323))
           repeat (go_quiet (first|((with_reducible refine zV (N:=9) rfl ?_);refine zW ?hg (N:=9) ?hd (cs:=#[.string (⟨#[]⟩:ByteArray),.int .i64 0,.int .i64 0,.int .i64 0]) (t:=74) ?hr ?_;(case hd=>rfl);(case hg=>rfl);(case hr=>first|(go_simp;done)|(go_simp;rfl));intro gb320 hg w22 hbox hb;have n0_:=zA (zN (g:=gb317) (o:=.cells #[.slice (some ad319) l0_0.length c0_0,.slice A0_1 l0_1.length c0_1] 25 (0,0)) (by (with_reducible repeat (first|refine zL ?_ _|refine zM ?_|refine zK ?_ _));exact BK317.out) hb);have n1_:=zA (zH (by repeat (first|(with_reducible first|exact HB.out|apply zD|apply zC|apply zE|refine zF ?_ GE317.out)|exact HB.out)) hb);have n2_:=zA (hbox);have n3_:=zA ((by rw [hg];exact (zG (by repeat (first|(with_reducible first|exact HB.out|apply zD|apply zC|apply zE|refine zF ?_ GE317.out)|exact HB.out))):w.heap.size ≤ gb320));have n4_:=zA ((by rw [hg];exact (zG (by repeat (first|(with_reducible first|exact HB.out|apply zD|apply zC|apply zE|refine zF ?_ GE317.out)|exact HB.out))):w.heap.size ≤ gb320));have n5_:=zA ((by rw [hg];exact Nat.ne_of_lt (blk_lt (g:=gb317) (o:=.cells #[.slice (some ad319) l0_0.length c0_0,.slice A0_1 l0_1.length c0_1] 25 (0,0)) (by (with_reducible repeat (first|refine zL ?_ _|refine zM ?_|refine zK ?_ _));exact BK317.out)):gb317 ≠ gb320));have n6_:=zA ((by rw [hg];exact Nat.ne_of_gt (blk_lt (g:=gb317) (o:=.cells #[.slice (some ad319) l0_0.length c0_0,.slice A0_1 l0_1.length c0_1] 25 (0,0)) (by (with_reducible repeat (first|refine zL ?_ _|refine zM ?_|refine zK ?_ _));exact BK317.out)):gb320 ≠ gb317));clear BK317;clear HB;have BK317:=n0_;have HB:=n1_;have BK320:=n2_;have GW320:=n3_;have GE320:=n4_;have NB317_320:=n5_;have NB320_317:=n6_;clear n0_ n1_ n2_ n3_ n4_ n5_ n6_;clear hb hbox hg;have hnb23:=NB320_317.out;have hnc23:=NB317_320.out;have hcz24_0:w22.cell? ⟨gb320,0,none⟩ = some (.string (⟨#[]⟩:ByteArray)):=(zI BK320.out 0).trans rfl;have hcz24_1:w22.cell? ⟨gb320,1,none⟩ = some (.int .i64 0):=(zI BK320.out 1).trans rfl;have hcz24_2:w22.cell? ⟨gb320,2,none⟩ = some (.int .i64 0):=(zI BK320.out 2).trans rfl;have hcz24_3:w22.cell? ⟨gb320,3,none⟩ = some (.int .i64 0):=(zI BK320.out 3).trans rfl;have hfz24_0:=zJ BK320.out 0;have hfz24_1:=zJ BK320.out 1;have hfz24_2:=zJ BK320.out 2;have hfz24_3:=zJ BK320.out 3;have p321:0 ≤ (x24_1:Int):=zP (by assumption);have q321:x24_1 < (l1.length:Int):=zP (by assumption);obtain ⟨ad321,e321,hx321_0⟩:=Kd.at_int HR1.out x24_1 p321 q321;cases e321;have hn321_0:ad321.block ≠ gb320:=Nat.ne_of_lt (zS (by have:=zB _ _ hx321_0;first|rwa [add_block] at this|exact this) GW320.out);have hn321_1:ad321.block ≠ gb320:=Nat.ne_of_lt (zS (by have:=zB _ _ hx321_0;first|rwa [add_block] at this|exact this) GW320.out);have hn321_2:ad321.block ≠ gb320:=Nat.ne_of_lt (zS (by have:=zB _ _ hx321_0;first|rwa [add_block] at this|exact this) GW320.out);have hn321_3:ad321.block ≠ gb320:=Nat.ne_of_lt (zS (by have:=zB _ _ hx321_0;first|rwa [add_block] at this|exact this) GW320.out);replace hx321_0:=(HB.out.cell (zB w _ hx321_0)).trans hx321_0;replace hx321_0:=(cell_far (p:=⟨gb320,0,none⟩) (by first|(rw [add_block];exact hn321_0)|(show (Addr.add _ _).block ≠ _;rw [add_block];exact hn321_0)|exact hn321_0) (.string ((rd_T74 l0_0 x24_1).f0))).trans hx321_0;replace hx321_0:=(cell_far (p:=⟨gb320,1,none⟩) (by first|(rw [add_block];exact hn321_1)|(show (Addr.add _ _).block ≠ _;rw [add_block];exact hn321_1)|exact hn321_1) (.int .i64 ((rd_T74 l0_0 x24_1).f1))).trans hx321_0;replace hx321_0:=(cell_far (p:=⟨gb320,2,none⟩) (by first|(rw [add_block];exact hn321_2)|(show (Addr.add _ _).block ≠ _;rw [add_block];exact hn321_2)|exact hn321_2) (.int .i64 ((rd_T74 l0_0 x24_1).f2))).trans hx321_0;replace hx321_0:=(cell_far (p:=⟨gb320,3,none⟩) (by first|(rw [add_block];exact hn321_3)|(show (Addr.add _ _).block ≠ _;rw [add_block];exact hn321_3)|exact hn321_3) (.int .i64 ((rd_T74 l0_0 x24_1).f3))).trans hx321_0;(try have hy321_0:=fun (n_:Nat)=>(show ((((((w22.drewN n_).setCell ⟨gb320,0,none⟩ (.string ((rd_T74 l0_0 x24_1).f0))).setCell ⟨gb320,1,none⟩ (.int .i64 ((rd_T74 l0_0 x24_1).f1))).setCell ⟨gb320,2,none⟩ (.int .i64 ((rd_T74 l0_0 x24_1).f2))).setCell ⟨gb320,3,none⟩ (.int .i64 ((rd_T74 l0_0 x24_1).f3)))).cell? _ = some _ from hx321_0));clear hn321_0;clear hn321_1;clear hn321_2;clear hn321_3;replace p321:=eq_true p321;replace q321:=eq_true q321;have p322:0 ≤ (x24_1:Int):=zP (by assumption);have q322:x24_1 < (l1.length:Int):=zP (by assumption);obtain ⟨ad322,e322,hx322_0⟩:=Kd.at_int HR1.out x24_1 p322 q322;obtain rfl:ad321 = ad322:=(by injection e322);have hn322_0:ad321.block ≠ gb320:=Nat.ne_of_lt (zS (by have:=zB _ _ hx322_0;first|rwa [add_block] at this|exact this) GW320.out);have hn322_1:ad321.block ≠ gb320:=Nat.ne_of_lt (zS (by have:=zB _ _ hx322_0;first|rwa [add_block] at this|exact this) GW320.out);have hn322_2:ad321.block ≠ gb320:=Nat.ne_of_lt (zS (by have:=zB _ _ hx322_0;first|rwa [add_block] at this|exact this) GW320.out);have hn322_3:ad321.block ≠ gb320:=Nat.ne_of_lt (zS (by have:=zB _ _ hx322_0;first|rwa [add_block] at this|exact this) GW320.out);replace hx322_0:=(HB.out.cell (zB w _ hx322_0)).trans hx322_0;replace hx322_0:=(cell_far (p:=⟨gb320,0,none⟩) (by first|(rw [add_block];exact hn322_0)|(show (Addr.add _ _).block ≠ _;rw [add_block];exact hn322_0)|exact hn322_0) (.string ((rd_T74 l0_0 x24_1).f0))).trans hx322_0;replace hx322_0:=(cell_far (p:=⟨gb320,1,none⟩) (by first|(rw [add_block];exact hn322_1)|(show (Addr.add _ _).block ≠ _;rw [add_block];exact hn322_1)|exact hn322_1) (.int .i64 ((rd_T74 l0_0 x24_1).f1))).trans hx322_0;replace hx322_0:=(cell_far (p:=⟨gb320,2,none⟩) (by first|(rw [add_block];exact hn322_2)|(show (Addr.add _ _).block ≠ _;rw [add_block];exact hn322_2)|exact hn322_2) (.int .i64 ((rd_T74 l0_0 x24_1).f2))).trans hx322_0;replace hx322_0:=(cell_far (p:=⟨gb320,3,none⟩) (by first|(rw [add_block];exact hn322_3)|(show (Addr.add _ _).block ≠ _;rw [add_block];exact hn322_3)|exact hn322_3) (.int .i64 ((rd_T74 l0_0 x24_1).f3))).trans hx322_0;(try have hy322_0:=fun (n_:Nat)=>(show ((((((w22.drewN n_).setCell ⟨gb320,0,none⟩ (.string ((rd_T74 l0_0 x24_1).f0))).setCell ⟨gb320,1,none⟩ (.int .i64 ((rd_T74 l0_0 x24_1).f1))).setCell ⟨gb320,2,none⟩ (.int .i64 ((rd_T74 l0_0 x24_1).f2))).setCell ⟨gb320,3,none⟩ (.int .i64 ((rd_T74 l0_0 x24_1).f3)))).cell? _ = some _ from hx322_0));clear hn322_0;clear hn322_1;clear hn322_2;clear hn322_3;replace p322:=eq_true p322;replace q322:=eq_true q322;have p323:0 ≤ (x24_1:Int):=zP (by assumption);have q323:x24_1 < (l1.length:Int):=zP (by assumption);obtain ⟨ad323,e323,hx323_0⟩:=Kd.at_int HR1.out x24_1 p323 q323;obtain rfl:ad321 = ad323:=(by injection e323);have hn323_0:ad321.block ≠ gb320:=Nat.ne_of_lt (zS (by have:=zB _ _ hx323_0;first|rwa [add_block] at this|exact this) GW320.out);have hn323_1:ad321.block ≠ gb320:=Nat.ne_of_lt (zS (by have:=zB _ _ hx323_0;first|rwa [add_block] at this|exact this) GW320.out);have hn323_2:ad321.block ≠ gb320:=Nat.ne_of_lt (zS (by have:=zB _ _ hx323_0;first|rwa [add_block] at this|exact this) GW320.out);have hn323_3:ad321.block ≠ gb320:=Nat.ne_of_lt (zS (by have:=zB _ _ hx323_0;first|rwa [add_block] at this|exact this) GW320.out);replace hx323_0:=(HB.out.cell (zB w _ hx323_0)).trans hx323_0;replace hx323_0:=(cell_far (p:=⟨gb320,0,none⟩) (by first|(rw [add_block];exact hn323_0)|(show (Addr.add _ _).block ≠ _;rw [add_block];exact hn323_0)|exact hn323_0) (.string ((rd_T74 l0_0 x24_1).f0))).trans hx323_0;replace hx323_0:=(cell_far (p:=⟨gb320,1,none⟩) (by first|(rw [add_block];exact hn323_1)|(show (Addr.add _ _).block ≠ _;rw [add_block];exact hn323_1)|exact hn323_1) (.int .i64 ((rd_T74 l0_0 x24_1).f1))).trans hx323_0;replace hx323_0:=(cell_far (p:=⟨gb320,2,none⟩) (by first|(rw [add_block];exact hn323_2)|(show (Addr.add _ _).block ≠ _;rw [add_block];exact hn323_2)|exact hn323_2) (.int .i64 ((rd_T74 l0_0 x24_1).f2))).trans hx323_0;replace hx323_0:=(cell_far (p:=⟨gb320,3,none⟩) (by first|(rw [add_block];exact hn323_3)|(show (Addr.add _ _).block ≠ _;rw [add_block];exact hn323_3)|exact hn323_3) (.int .i64 ((rd_T74 l0_0 x24_1).f3))).trans hx323_0;(try have hy323_0:=fun (n_:Nat)=>(show ((((((w22.drewN n_).setCell ⟨gb320,0,none⟩ (.string ((rd_T74 l0_0 x24_1).f0))).setCell ⟨gb320,1,none⟩ (.int .i64 ((rd_T74 l0_0 x24_1).f1))).setCell ⟨gb320,2,none⟩ (.int .i64 ((rd_T74 l0_0 x24_1).f2))).setCell ⟨gb320,3,none⟩ (.int .i64 ((rd_T74 l0_0 x24_1).f3)))).cell? _ = some _ from hx323_0));clear hn323_0;clear hn323_1;clear hn323_2;clear hn323_3;replace p323:=eq_true p323;replace q323:=eq_true q323));try go_wp2_with (first|((with_reducible refine zV (N:=9) rfl ?_);refine zW ?hg (N:=9) ?hd (cs:=#[.string (⟨#[]⟩:ByteArray),.int .i64 0,.int .i64 0,.int .i64 0]) (t:=74) ?hr ?_;(case hd=>rfl);(case hg=>rfl);(case hr=>first|(go_simp;done)|(go_simp;rfl));intro gb320 hg w22 hbox hb;have n0_:=zA (zN (g:=gb317) (o:=.cells #[.slice (some ad319) l0_0.length c0_0,.slice A0_1 l0_1.length c0_1] 25 (0,0)) (by (with_reducible repeat (first|refine zL ?_ _|refine zM ?_|refine zK ?_ _));exact BK317.out) hb);have n1_:=zA (zH (by repeat (first|(with_reducible first|exact HB.out|apply zD|apply zC|apply zE|refine zF ?_ GE317.out)|exact HB.out)) hb);have n2_:=zA (hbox);have n3_:=zA ((by rw [hg];exact (zG (by repeat (first|(with_reducible first|exact HB.out|apply zD|apply zC|apply zE|refine zF ?_ GE317.out)|exact HB.out))):w.heap.size ≤ gb320));have n4_:=zA ((by rw [hg];exact (zG (by repeat (first|(with_reducible first|exact HB.out|apply zD|apply zC|apply zE|refine zF ?_ GE317.out)|exact HB.out))):w.heap.size ≤ gb320));have n5_:=zA ((by rw [hg];exact Nat.ne_of_lt (blk_lt (g:=gb317) (o:=.cells #[.slice (some ad319) l0_0.length c0_0,.slice A0_1 l0_1.length c0_1] 25 (0,0)) (by (with_reducible repeat (first|refine zL ?_ _|refine zM ?_|refine zK ?_ _));exact BK317.out)):gb317 ≠ gb320));have n6_:=zA ((by rw [hg];exact Nat.ne_of_gt (blk_lt (g:=gb317) (o:=.cells #[.slice (some ad319) l0_0.length c0_0,.slice A0_1 l0_1.length c0_1] 25 (0,0)) (by (with_reducible repeat (first|refine zL ?_ _|refine zM ?_|refine zK ?_ _));exact BK317.out)):gb320 ≠ gb317));clear BK317;clear HB;have BK317:=n0_;have HB:=n1_;have BK320:=n2_;have GW320:=n3_;have GE320:=n4_;have NB317_320:=n5_;have NB320_317:=n6_;clear n0_ n1_ n2_ n3_ n4_ n5_ n6_;clear hb hbox hg;have hnb23:=NB320_317.out;have hnc23:=NB317_320.out;have hcz24_0:w22.cell? ⟨gb320,0,none⟩ = some (.string (⟨#[]⟩:ByteArray)):=(zI BK320.out 0).trans rfl;have hcz24_1:w22.cell? ⟨gb320,1,none⟩ = some (.int .i64 0):=(zI BK320.out 1).trans rfl;have hcz24_2:w22.cell? ⟨gb320,2,none⟩ = some (.int .i64 0):=(zI BK320.out 2).trans rfl;have hcz24_3:w22.cell? ⟨gb320,3,none⟩ = some (.int .i64 0):=(zI BK320.out 3).trans rfl;have hfz24_0:=zJ BK320.out 0;have hfz24_1:=zJ BK320.out 1;have hfz24_2:=zJ BK320.out 2;have hfz24_3:=zJ BK320.out 3;have p321:0 ≤ (x24_1:Int):=zP (by assumption);have q321:x24_1 < (l1.length:Int):=zP (by assumption);obtain ⟨ad321,e321,hx321_0⟩:=Kd.at_int HR1.out x24_1 p321 q321;cases e321;have hn321_0:ad321.block ≠ gb320:=Nat.ne_of_lt (zS (by have:=zB _ _ hx321_0;first|rwa [add_block] at this|exact this) GW320.out);have hn321_1:ad321.block ≠ gb320:=Nat.ne_of_lt (zS (by have:=zB _ _ hx321_0;first|rwa [add_block] at this|exact this) GW320.out);have hn321_2:ad321.block ≠ gb320:=Nat.ne_of_lt (zS (by have:=zB _ _ hx321_0;first|rwa [add_block] at this|exact this) GW320.out);have hn321_3:ad321.block ≠ gb320:=Nat.ne_of_lt (zS (by have:=zB _ _ hx321_0;first|rwa [add_block] at this|exact this) GW320.out);replace hx321_0:=(HB.out.cell (zB w _ hx321_0)).trans hx321_0;replace hx321_0:=(cell_far (p:=⟨gb320,0,none⟩) (by first|(rw [add_block];exact hn321_0)|(show (Addr.add _ _).block ≠ _;rw [add_block];exact hn321_0)|exact hn321_0) (.string ((rd_T74 l0_0 x24_1).f0))).trans hx321_0;replace hx321_0:=(cell_far (p:=⟨gb320,1,none⟩) (by first|(rw [add_block];exact hn321_1)|(show (Addr.add _ _).block ≠ _;rw [add_block];exact hn321_1)|exact hn321_1) (.int .i64 ((rd_T74 l0_0 x24_1).f1))).trans hx321_0;replace hx321_0:=(cell_far (p:=⟨gb320,2,none⟩) (by first|(rw [add_block];exact hn321_2)|(show (Addr.add _ _).block ≠ _;rw [add_block];exact hn321_2)|exact hn321_2) (.int .i64 ((rd_T74 l0_0 x24_1).f2))).trans hx321_0;replace hx321_0:=(cell_far (p:=⟨gb320,3,none⟩) (by first|(rw [add_block];exact hn321_3)|(show (Addr.add _ _).block ≠ _;rw [add_block];exact hn321_3)|exact hn321_3) (.int .i64 ((rd_T74 l0_0 x24_1).f3))).trans hx321_0;(try have hy321_0:=fun (n_:Nat)=>(show ((((((w22.drewN n_).setCell ⟨gb320,0,none⟩ (.string ((rd_T74 l0_0 x24_1).f0))).setCell ⟨gb320,1,none⟩ (.int .i64 ((rd_T74 l0_0 x24_1).f1))).setCell ⟨gb320,2,none⟩ (.int .i64 ((rd_T74 l0_0 x24_1).f2))).setCell ⟨gb320,3,none⟩ (.int .i64 ((rd_T74 l0_0 x24_1).f3)))).cell? _ = some _ from hx321_0));clear hn321_0;clear hn321_1;clear hn321_2;clear hn321_3;replace p321:=eq_true p321;replace q321:=eq_true q321;have p322:0 ≤ (x24_1:Int):=zP (by assumption);have q322:x24_1 < (l1.length:Int):=zP (by assumption);obtain ⟨ad322,e322,hx322_0⟩:=Kd.at_int HR1.out x24_1 p322 q322;obtain rfl:ad321 = ad322:=(by injection e322);have hn322_0:ad321.block ≠ gb320:=Nat.ne_of_lt (zS (by have:=zB _ _ hx322_0;first|rwa [add_block] at this|exact this) GW320.out);have hn322_1:ad321.block ≠ gb320:=Nat.ne_of_lt (zS (by have:=zB _ _ hx322_0;first|rwa [add_block] at this|exact this) GW320.out);have hn322_2:ad321.block ≠ gb320:=Nat.ne_of_lt (zS (by have:=zB _ _ hx322_0;first|rwa [add_block] at this|exact this) GW320.out);have hn322_3:ad321.block ≠ gb320:=Nat.ne_of_lt (zS (by have:=zB _ _ hx322_0;first|rwa [add_block] at this|exact this) GW320.out);replace hx322_0:=(HB.out.cell (zB w _ hx322_0)).trans hx322_0;replace hx322_0:=(cell_far (p:=⟨gb320,0,none⟩) (by first|(rw [add_block];exact hn322_0)|(show (Addr.add _ _).block ≠ _;rw [add_block];exact hn322_0)|exact hn322_0) (.string ((rd_T74 l0_0 x24_1).f0))).trans hx322_0;replace hx322_0:=(cell_far (p:=⟨gb320,1,none⟩) (by first|(rw [add_block];exact hn322_1)|(show (Addr.add _ _).block ≠ _;rw [add_block];exact hn322_1)|exact hn322_1) (.int .i64 ((rd_T74 l0_0 x24_1).f1))).trans hx322_0;replace hx322_0:=(cell_far (p:=⟨gb320,2,none⟩) (by first|(rw [add_block];exact hn322_2)|(show (Addr.add _ _).block ≠ _;rw [add_block];exact hn322_2)|exact hn322_2) (.int .i64 ((rd_T74 l0_0 x24_1).f2))).trans hx322_0;replace hx322_0:=(cell_far (p:=⟨gb320,3,none⟩) (by first|(rw [add_block];exact hn322_3)|(show (Addr.add _ _).block ≠ _;rw [add_block];exact hn322_3)|exact hn322_3) (.int .i64 ((rd_T74 l0_0 x24_1).f3))).trans hx322_0;(try have hy322_0:=fun (n_:Nat)=>(show ((((((w22.drewN n_).setCell ⟨gb320,0,none⟩ (.string ((rd_T74 l0_0 x24_1).f0))).setCell ⟨gb320,1,none⟩ (.int .i64 ((rd_T74 l0_0 x24_1).f1))).setCell ⟨gb320,2,none⟩ (.int .i64 ((rd_T74 l0_0 x24_1).f2))).setCell ⟨gb320,3,none⟩ (.int .i64 ((rd_T74 l0_0 x24_1).f3)))).cell? _ = some _ from hx322_0));clear hn322_0;clear hn322_1;clear hn322_2;clear hn322_3;replace p322:=eq_true p322;replace q322:=eq_true q322;have p323:0 ≤ (x24_1:Int):=zP (by assumption);have q323:x24_1 < (l1.length:Int):=zP (by assumption);obtain ⟨ad323,e323,hx323_0⟩:=Kd.at_int HR1.out x24_1 p323 q323;obtain rfl:ad321 = ad323:=(by injection e323);have hn323_0:ad321.block ≠ gb320:=Nat.ne_of_lt (zS (by have:=zB _ _ hx323_0;first|rwa [add_block] at this|exact this) GW320.out);have hn323_1:ad321.block ≠ gb320:=Nat.ne_of_lt (zS (by have:=zB _ _ hx323_0;first|rwa [add_block] at this|exact this) GW320.out);have hn323_2:ad321.block ≠ gb320:=Nat.ne_of_lt (zS (by have:=zB _ _ hx323_0;first|rwa [add_block] at this|exact this) GW320.out);have hn323_3:ad321.block ≠ gb320:=Nat.ne_of_lt (zS (by have:=zB _ _ hx323_0;first|rwa [add_block] at this|exact this) GW320.out);replace hx323_0:=(HB.out.cell (zB w _ hx323_0)).trans hx323_0;replace hx323_0:=(cell_far (p:=⟨gb320,0,none⟩) (by first|(rw [add_block];exact hn323_0)|(show (Addr.add _ _).block ≠ _;rw [add_block];exact hn323_0)|exact hn323_0) (.string ((rd_T74 l0_0 x24_1).f0))).trans hx323_0;replace hx323_0:=(cell_far (p:=⟨gb320,1,none⟩) (by first|(rw [add_block];exact hn323_1)|(show (Addr.add _ _).block ≠ _;rw [add_block];exact hn323_1)|exact hn323_1) (.int .i64 ((rd_T74 l0_0 x24_1).f1))).trans hx323_0;replace hx323_0:=(cell_far (p:=⟨gb320,2,none⟩) (by first|(rw [add_block];exact hn323_2)|(show (Addr.add _ _).block ≠ _;rw [add_block];exact hn323_2)|exact hn323_2) (.int .i64 ((rd_T74 l0_0 x24_1).f2))).trans hx323_0;replace hx323_0:=(cell_far (p:=⟨gb320,3,none⟩) (by first|(rw [add_block];exact hn323_3)|(show (Addr.add _ _).block ≠ _;rw [add_block];exact hn323_3)|exact hn323_3) (.int .i64 ((rd_T74 l0_0 x24_1).f3))).trans hx323_0;(try have hy323_0:=fun (n_:Nat)=>(show ((((((w22.drewN n_).setCell ⟨gb320,0,none⟩ (.string ((rd_T74 l0_0 x24_1).f0))).setCell ⟨gb320,1,none⟩ (.int .i64 ((rd_T74 l0_0 x24_1).f1))).setCell ⟨gb320,2,none⟩ (.int .i64 ((rd_T74 l0_0 x24_1).f2))).setCell ⟨gb320,3,none⟩ (.int .i64 ((rd_T74 l0_0 x24_1).f3)))).cell? _ = some _ from hx323_0));clear hn323_0;clear hn323_1;clear hn323_2;clear hn323_3;replace p323:=eq_true p323;replace q323:=eq_true q323)))
           go_roundg k1
           case measure=>have:=HK1.out;omega
           case rel=>exact ⟨(wrap64 ((wrap64 ((wrap64 (x7_1 * (wrap64 ((wrap64 (((rd_T74 l0_0 x24_1).f2) - ((rd_T74 l0_0 x24_1).f1))) + 1)))) + (rd l1 x24_1))) - ((rd_T74 l0_0 x24_1).f1))),(wrap64 (x24_1 + 1)),(by first|rfl|(simp;done)|(simp [*];done)),(by first|rfl|(simp;done)|(simp [*];done)),H',⟨by have:=HK1.out;omega⟩,⟨by (with_reducible repeat (first|refine zL ?_ _|refine zM ?_|refine zK ?_ _));refine blk_far ?_ NB317_320.out _;(with_reducible repeat (first|refine zL ?_ _|refine zM ?_|refine zK ?_ _));refine blk_far ?_ NB317_320.out _;(with_reducible repeat (first|refine zL ?_ _|refine zM ?_|refine zK ?_ _));refine blk_far ?_ NB317_320.out _;(with_reducible repeat (first|refine zL ?_ _|refine zM ?_|refine zK ?_ _));refine blk_far ?_ NB317_320.out _;(with_reducible repeat (first|refine zL ?_ _|refine zM ?_|refine zK ?_ _));exact BK317.out⟩,⟨by repeat (first|(with_reducible first|exact HB.out|apply zD|apply zC|apply zE|refine zF ?_ GE317.out|refine zF ?_ GE320.out)|exact HB.out)⟩⟩
        ·rw [if_neg c13] at H
         exact absurd H (by simp)
       ·rw [if_neg c12] at H
        exact absurd H (by simp)
      ·rw [if_neg c11] at H
       exact absurd H (by simp)
     ·rw [if_neg c10] at H
      have c10b0:decide (x24_1 < (l0_0.length:Int)) = false:=zR c10
      clear c10
      simp only [Option.some.injEq,Prod.mk.injEq] at H
      obtain ⟨rfl,rfl⟩:=H
      go_wp2
      repeat (go_quiet (fail);try go_wp2)
      go_ret2
      exact ⟨by first|rfl|(simp [errW_none,errW_some] <;> rfl)|(simp [*,errW_none,errW_some] <;> rfl),by repeat (first|(with_reducible first|exact HB.out|apply zD|apply zC|apply zE|refine zF ?_ GE317.out)|exact HB.out)⟩
  ·rw [if_neg c5] at H
   have c5b0:((l1.length:Int) == (l0_0.length:Int)) = false:=beq_eq_false_iff_ne.mpr c5
   have c5b1:((l1.length:Int) != (l0_0.length:Int)) = true:=bne_iff_ne.mpr c5
   have c5b2:(l1.length == l0_0.length) = false:=by first|simpa using c5|(simp at c5 ⊢;omega)
   simp only [Option.some.injEq,Prod.mk.injEq] at H
   obtain ⟨rfl,rfl⟩:=H
   go_enter Tryd.func25,Tryd.ntmps25
   go_wp2_with (first|((with_reducible refine zV (N:=2) rfl ?_);refine zW ?hg (N:=2) ?hd (cs:=#[.slice A0_0 l0_0.length c0_0,.slice A0_1 l0_1.length c0_1]) (t:=25) ?hr ?_;(case hd=>rfl);(case hg=>rfl);(case hr=>first|(go_simp;done)|(go_simp;rfl));intro gb317 hg w25 hbox hb;have n0_:=zA (zH (by repeat (first|(with_reducible first|exact HB.out|apply zD|apply zC|apply zE)|exact HB.out)) hb);have n1_:=zA (hbox);have n2_:=zA ((by rw [hg];exact (zG (by repeat (first|(with_reducible first|exact HB.out|apply zD|apply zC|apply zE)|exact HB.out))):w.heap.size ≤ gb317));have n3_:=zA ((by rw [hg];exact (zG (by repeat (first|(with_reducible first|exact HB.out|apply zD|apply zC|apply zE)|exact HB.out))):w.heap.size ≤ gb317));clear HB;have HB:=n0_;have BK317:=n1_;have GW317:=n2_;have GE317:=n3_;clear n0_ n1_ n2_ n3_;clear hb hbox hg;have hcz26_0:w25.cell? ⟨gb317,0,none⟩ = some (.slice A0_0 l0_0.length c0_0):=(zI BK317.out 0).trans rfl;have hcz26_1:w25.cell? ⟨gb317,1,none⟩ = some (.slice A0_1 l0_1.length c0_1):=(zI BK317.out 1).trans rfl;have hfz26_0:=zJ BK317.out 0;have hfz26_1:=zJ BK317.out 1)|(go_at_call 16;(with_reducible refine (model_Check.calls k _ _ l0_0 _ _ l0_1 t318 _ ?side1 ?side2 ?side3 ?side4 ?side5 A3.out).mono ?_);(case side1=>repeat (first|exact (zT HR0_0.out HB.out)|(with_reducible refine Kd.C_alloc ?_ _)|(with_reducible refine Kd.C_drewN ?_ _)|(with_reducible refine Kd.C_drew ?_)));(case side2=>exact HC0_0.out);(case side3=>repeat (first|exact (zT HR0_1.out HB.out)|(with_reducible refine Kd.C_alloc ?_ _)|(with_reducible refine Kd.C_drewN ?_ _)|(with_reducible refine Kd.C_drew ?_)));(case side4=>exact HC0_1.out);(case side5=>first|exact LaidG.below HLd.out (by repeat (first|(with_reducible first|exact HB.out|apply zD|apply zC|apply zE|refine zF ?_ GE317.out)|exact HB.out))|(refine LaidG.below HLd.out ?_;repeat (with_reducible first|exact HB.out|exact Below.refl _ _|apply zD|apply zC|apply zE);done));rintro e w27 ⟨rfl,hb⟩;have n0_:=zA (zN (g:=gb317) (o:=.cells #[.slice A0_0 l0_0.length c0_0,.slice A0_1 l0_1.length c0_1] 25 (0,0)) (by (with_reducible repeat (first|refine zL ?_ _|refine zM ?_|refine zK ?_ _));exact BK317.out) hb);have n1_:=zA (zH (by repeat (first|(with_reducible first|exact HB.out|apply zD|apply zC|apply zE|refine zF ?_ GE317.out)|exact HB.out)) hb);clear BK317;clear HB;have BK317:=n0_;have HB:=n1_;clear n0_ n1_;(try clear hb);(try clear hb2);(try clear hk);(try clear hi);have hcz28_0:w27.cell? ⟨gb317,0,none⟩ = some (.slice A0_0 l0_0.length c0_0):=(zI BK317.out 0).trans rfl;have hcz28_1:w27.cell? ⟨gb317,1,none⟩ = some (.slice A0_1 l0_1.length c0_1):=(zI BK317.out 1).trans rfl;have hfz28_0:=zJ BK317.out 0;have hfz28_1:=zJ BK317.out 1))
   repeat (go_quiet (first|((with_reducible refine zV (N:=2) rfl ?_);refine zW ?hg (N:=2) ?hd (cs:=#[.slice A0_0 l0_0.length c0_0,.slice A0_1 l0_1.length c0_1]) (t:=25) ?hr ?_;(case hd=>rfl);(case hg=>rfl);(case hr=>first|(go_simp;done)|(go_simp;rfl));intro gb317 hg w25 hbox hb;have n0_:=zA (zH (by repeat (first|(with_reducible first|exact HB.out|apply zD|apply zC|apply zE)|exact HB.out)) hb);have n1_:=zA (hbox);have n2_:=zA ((by rw [hg];exact (zG (by repeat (first|(with_reducible first|exact HB.out|apply zD|apply zC|apply zE)|exact HB.out))):w.heap.size ≤ gb317));have n3_:=zA ((by rw [hg];exact (zG (by repeat (first|(with_reducible first|exact HB.out|apply zD|apply zC|apply zE)|exact HB.out))):w.heap.size ≤ gb317));clear HB;have HB:=n0_;have BK317:=n1_;have GW317:=n2_;have GE317:=n3_;clear n0_ n1_ n2_ n3_;clear hb hbox hg;have hcz26_0:w25.cell? ⟨gb317,0,none⟩ = some (.slice A0_0 l0_0.length c0_0):=(zI BK317.out 0).trans rfl;have hcz26_1:w25.cell? ⟨gb317,1,none⟩ = some (.slice A0_1 l0_1.length c0_1):=(zI BK317.out 1).trans rfl;have hfz26_0:=zJ BK317.out 0;have hfz26_1:=zJ BK317.out 1)|(go_at_call 16;(with_reducible refine (model_Check.calls k _ _ l0_0 _ _ l0_1 t318 _ ?side1 ?side2 ?side3 ?side4 ?side5 A3.out).mono ?_);(case side1=>repeat (first|exact (zT HR0_0.out HB.out)|(with_reducible refine Kd.C_alloc ?_ _)|(with_reducible refine Kd.C_drewN ?_ _)|(with_reducible refine Kd.C_drew ?_)));(case side2=>exact HC0_0.out);(case side3=>repeat (first|exact (zT HR0_1.out HB.out)|(with_reducible refine Kd.C_alloc ?_ _)|(with_reducible refine Kd.C_drewN ?_ _)|(with_reducible refine Kd.C_drew ?_)));(case side4=>exact HC0_1.out);(case side5=>first|exact LaidG.below HLd.out (by repeat (first|(with_reducible first|exact HB.out|apply zD|apply zC|apply zE|refine zF ?_ GE317.out)|exact HB.out))|(refine LaidG.below HLd.out ?_;repeat (with_reducible first|exact HB.out|exact Below.refl _ _|apply zD|apply zC|apply zE);done));rintro e w27 ⟨rfl,hb⟩;have n0_:=zA (zN (g:=gb317) (o:=.cells #[.slice A0_0 l0_0.length c0_0,.slice A0_1 l0_1.length c0_1] 25 (0,0)) (by (with_reducible repeat (first|refine zL ?_ _|refine zM ?_|refine zK ?_ _));exact BK317.out) hb);have n1_:=zA (zH (by repeat (first|(with_reducible first|exact HB.out|apply zD|apply zC|apply zE|refine zF ?_ GE317.out)|exact HB.out)) hb);clear BK317;clear HB;have BK317:=n0_;have HB:=n1_;clear n0_ n1_;(try clear hb);(try clear hb2);(try clear hk);(try clear hi);have hcz28_0:w27.cell? ⟨gb317,0,none⟩ = some (.slice A0_0 l0_0.length c0_0):=(zI BK317.out 0).trans rfl;have hcz28_1:w27.cell? ⟨gb317,1,none⟩ = some (.slice A0_1 l0_1.length c0_1):=(zI BK317.out 1).trans rfl;have hfz28_0:=zJ BK317.out 0;have hfz28_1:=zJ BK317.out 1));try go_wp2_with (first|((with_reducible refine zV (N:=2) rfl ?_);refine zW ?hg (N:=2) ?hd (cs:=#[.slice A0_0 l0_0.length c0_0,.slice A0_1 l0_1.length c0_1]) (t:=25) ?hr ?_;(case hd=>rfl);(case hg=>rfl);(case hr=>first|(go_simp;done)|(go_simp;rfl));intro gb317 hg w25 hbox hb;have n0_:=zA (zH (by repeat (first|(with_reducible first|exact HB.out|apply zD|apply zC|apply zE)|exact HB.out)) hb);have n1_:=zA (hbox);have n2_:=zA ((by rw [hg];exact (zG (by repeat (first|(with_reducible first|exact HB.out|apply zD|apply zC|apply zE)|exact HB.out))):w.heap.size ≤ gb317));have n3_:=zA ((by rw [hg];exact (zG (by repeat (first|(with_reducible first|exact HB.out|apply zD|apply zC|apply zE)|exact HB.out))):w.heap.size ≤ gb317));clear HB;have HB:=n0_;have BK317:=n1_;have GW317:=n2_;have GE317:=n3_;clear n0_ n1_ n2_ n3_;clear hb hbox hg;have hcz26_0:w25.cell? ⟨gb317,0,none⟩ = some (.slice A0_0 l0_0.length c0_0):=(zI BK317.out 0).trans rfl;have hcz26_1:w25.cell? ⟨gb317,1,none⟩ = some (.slice A0_1 l0_1.length c0_1):=(zI BK317.out 1).trans rfl;have hfz26_0:=zJ BK317.out 0;have hfz26_1:=zJ BK317.out 1)|(go_at_call 16;(with_reducible refine (model_Check.calls k _ _ l0_0 _ _ l0_1 t318 _ ?side1 ?side2 ?side3 ?side4 ?side5 A3.out).mono ?_);(case side1=>repeat (first|exact (zT HR0_0.out HB.out)|(with_reducible refine Kd.C_alloc ?_ _)|(with_reducible refine Kd.C_drewN ?_ _)|(with_reducible refine Kd.C_drew ?_)));(case side2=>exact HC0_0.out);(case side3=>repeat (first|exact (zT HR0_1.out HB.out)|(with_reducible refine Kd.C_alloc ?_ _)|(with_reducible refine Kd.C_drewN ?_ _)|(with_reducible refine Kd.C_drew ?_)));(case side4=>exact HC0_1.out);(case side5=>first|exact LaidG.below HLd.out (by repeat (first|(with_reducible first|exact HB.out|apply zD|apply zC|apply zE|refine zF ?_ GE317.out)|exact HB.out))|(refine LaidG.below HLd.out ?_;repeat (with_reducible first|exact HB.out|exact Below.refl _ _|apply zD|apply zC|apply zE);done));rintro e w27 ⟨rfl,hb⟩;have n0_:=zA (zN (g:=gb317) (o:=.cells #[.slice A0_0 l0_0.length c0_0,.slice A0_1 l0_1.length c0_1] 25 (0,0)) (by (with_reducible repeat (first|refine zL ?_ _|refine zM ?_|refine zK ?_ _));exact BK317.out) hb);have n1_:=zA (zH (by repeat (first|(with_reducible first|exact HB.out|apply zD|apply zC|apply zE|refine zF ?_ GE317.out)|exact HB.out)) hb);clear BK317;clear HB;have BK317:=n0_;have HB:=n1_;clear n0_ n1_;(try clear hb);(try clear hb2);(try clear hk);(try clear hi);have hcz28_0:w27.cell? ⟨gb317,0,none⟩ = some (.slice A0_0 l0_0.length c0_0):=(zI BK317.out 0).trans rfl;have hcz28_1:w27.cell? ⟨gb317,1,none⟩ = some (.slice A0_1 l0_1.length c0_1):=(zI BK317.out 1).trans rfl;have hfz28_0:=zJ BK317.out 0;have hfz28_1:=zJ BK317.out 1)))
   go_ret2
   exact ⟨by first|rfl|(simp [errW_none,errW_some] <;> rfl)|(simp [*,errW_none,errW_some] <;> rfl),by repeat (first|(with_reducible first|exact HB.out|apply zD|apply zC|apply zE|refine zF ?_ GE317.out)|exact HB.out)⟩
 ·rw [if_neg c4] at H
  have c4b0:(t318 == 0) = false:=beq_eq_false_iff_ne.mpr c4
  have c4b1:(t318 != 0) = true:=bne_iff_ne.mpr c4
  simp only [Option.some.injEq,Prod.mk.injEq] at H
  obtain ⟨rfl,rfl⟩:=H
  go_enter Tryd.func25,Tryd.ntmps25
  go_wp2_with (first|((with_reducible refine zV (N:=2) rfl ?_);refine zW ?hg (N:=2) ?hd (cs:=#[.slice A0_0 l0_0.length c0_0,.slice A0_1 l0_1.length c0_1]) (t:=25) ?hr ?_;(case hd=>rfl);(case hg=>rfl);(case hr=>first|(go_simp;done)|(go_simp;rfl));intro gb317 hg w29 hbox hb;have n0_:=zA (zH (by repeat (first|(with_reducible first|exact HB.out|apply zD|apply zC|apply zE)|exact HB.out)) hb);have n1_:=zA (hbox);have n2_:=zA ((by rw [hg];exact (zG (by repeat (first|(with_reducible first|exact HB.out|apply zD|apply zC|apply zE)|exact HB.out))):w.heap.size ≤ gb317));have n3_:=zA ((by rw [hg];exact (zG (by repeat (first|(with_reducible first|exact HB.out|apply zD|apply zC|apply zE)|exact HB.out))):w.heap.size ≤ gb317));clear HB;have HB:=n0_;have BK317:=n1_;have GW317:=n2_;have GE317:=n3_;clear n0_ n1_ n2_ n3_;clear hb hbox hg;have hcz30_0:w29.cell? ⟨gb317,0,none⟩ = some (.slice A0_0 l0_0.length c0_0):=(zI BK317.out 0).trans rfl;have hcz30_1:w29.cell? ⟨gb317,1,none⟩ = some (.slice A0_1 l0_1.length c0_1):=(zI BK317.out 1).trans rfl;have hfz30_0:=zJ BK317.out 0;have hfz30_1:=zJ BK317.out 1)|(go_at_call 16;(with_reducible refine (model_Check.calls k _ _ l0_0 _ _ l0_1 t318 _ ?side1 ?side2 ?side3 ?side4 ?side5 A3.out).mono ?_);(case side1=>repeat (first|exact (zT HR0_0.out HB.out)|(with_reducible refine Kd.C_alloc ?_ _)|(with_reducible refine Kd.C_drewN ?_ _)|(with_reducible refine Kd.C_drew ?_)));(case side2=>exact HC0_0.out);(case side3=>repeat (first|exact (zT HR0_1.out HB.out)|(with_reducible refine Kd.C_alloc ?_ _)|(with_reducible refine Kd.C_drewN ?_ _)|(with_reducible refine Kd.C_drew ?_)));(case side4=>exact HC0_1.out);(case side5=>first|exact LaidG.below HLd.out (by repeat (first|(with_reducible first|exact HB.out|apply zD|apply zC|apply zE|refine zF ?_ GE317.out)|exact HB.out))|(refine LaidG.below HLd.out ?_;repeat (with_reducible first|exact HB.out|exact Below.refl _ _|apply zD|apply zC|apply zE);done));rintro e w31 ⟨rfl,hb⟩;have n0_:=zA (zN (g:=gb317) (o:=.cells #[.slice A0_0 l0_0.length c0_0,.slice A0_1 l0_1.length c0_1] 25 (0,0)) (by (with_reducible repeat (first|refine zL ?_ _|refine zM ?_|refine zK ?_ _));exact BK317.out) hb);have n1_:=zA (zH (by repeat (first|(with_reducible first|exact HB.out|apply zD|apply zC|apply zE|refine zF ?_ GE317.out)|exact HB.out)) hb);clear BK317;clear HB;have BK317:=n0_;have HB:=n1_;clear n0_ n1_;(try clear hb);(try clear hb2);(try clear hk);(try clear hi)))
  repeat (go_quiet (first|((with_reducible refine zV (N:=2) rfl ?_);refine zW ?hg (N:=2) ?hd (cs:=#[.slice A0_0 l0_0.length c0_0,.slice A0_1 l0_1.length c0_1]) (t:=25) ?hr ?_;(case hd=>rfl);(case hg=>rfl);(case hr=>first|(go_simp;done)|(go_simp;rfl));intro gb317 hg w29 hbox hb;have n0_:=zA (zH (by repeat (first|(with_reducible first|exact HB.out|apply zD|apply zC|apply zE)|exact HB.out)) hb);have n1_:=zA (hbox);have n2_:=zA ((by rw [hg];exact (zG (by repeat (first|(with_reducible first|exact HB.out|apply zD|apply zC|apply zE)|exact HB.out))):w.heap.size ≤ gb317));have n3_:=zA ((by rw [hg];exact (zG (by repeat (first|(with_reducible first|exact HB.out|apply zD|apply zC|apply zE)|exact HB.out))):w.heap.size ≤ gb317));clear HB;have HB:=n0_;have BK317:=n1_;have GW317:=n2_;have GE317:=n3_;clear n0_ n1_ n2_ n3_;clear hb hbox hg;have hcz30_0:w29.cell? ⟨gb317,0,none⟩ = some (.slice A0_0 l0_0.length c0_0):=(zI BK317.out 0).trans rfl;have hcz30_1:w29.cell? ⟨gb317,1,none⟩ = some (.slice A0_1 l0_1.length c0_1):=(zI BK317.out 1).trans rfl;have hfz30_0:=zJ BK317.out 0;have hfz30_1:=zJ BK317.out 1)|(go_at_call 16;(with_reducible refine (model_Check.calls k _ _ l0_0 _ _ l0_1 t318 _ ?side1 ?side2 ?side3 ?side4 ?side5 A3.out).mono ?_);(case side1=>repeat (first|exact (zT HR0_0.out HB.out)|(with_reducible refine Kd.C_alloc ?_ _)|(with_reducible refine Kd.C_drewN ?_ _)|(with_reducible refine Kd.C_drew ?_)));(case side2=>exact HC0_0.out);(case side3=>repeat (first|exact (zT HR0_1.out HB.out)|(with_reducible refine Kd.C_alloc ?_ _)|(with_reducible refine Kd.C_drewN ?_ _)|(with_reducible refine Kd.C_drew ?_)));(case side4=>exact HC0_1.out);(case side5=>first|exact LaidG.below HLd.out (by repeat (first|(with_reducible first|exact HB.out|apply zD|apply zC|apply zE|refine zF ?_ GE317.out)|exact HB.out))|(refine LaidG.below HLd.out ?_;repeat (with_reducible first|exact HB.out|exact Below.refl _ _|apply zD|apply zC|apply zE);done));rintro e w31 ⟨rfl,hb⟩;have n0_:=zA (zN (g:=gb317) (o:=.cells #[.slice A0_0 l0_0.length c0_0,.slice A0_1 l0_1.length c0_1] 25 (0,0)) (by (with_reducible repeat (first|refine zL ?_ _|refine zM ?_|refine zK ?_ _));exact BK317.out) hb);have n1_:=zA (zH (by repeat (first|(with_reducible first|exact HB.out|apply zD|apply zC|apply zE|refine zF ?_ GE317.out)|exact HB.out)) hb);clear BK317;clear HB;have BK317:=n0_;have HB:=n1_;clear n0_ n1_;(try clear hb);(try clear hb2);(try clear hk);(try clear hi)));try go_wp2_with (first|((with_reducible refine zV (N:=2) rfl ?_);refine zW ?hg (N:=2) ?hd (cs:=#[.slice A0_0 l0_0.length c0_0,.slice A0_1 l0_1.length c0_1]) (t:=25) ?hr ?_;(case hd=>rfl);(case hg=>rfl);(case hr=>first|(go_simp;done)|(go_simp;rfl));intro gb317 hg w29 hbox hb;have n0_:=zA (zH (by repeat (first|(with_reducible first|exact HB.out|apply zD|apply zC|apply zE)|exact HB.out)) hb);have n1_:=zA (hbox);have n2_:=zA ((by rw [hg];exact (zG (by repeat (first|(with_reducible first|exact HB.out|apply zD|apply zC|apply zE)|exact HB.out))):w.heap.size ≤ gb317));have n3_:=zA ((by rw [hg];exact (zG (by repeat (first|(with_reducible first|exact HB.out|apply zD|apply zC|apply zE)|exact HB.out))):w.heap.size ≤ gb317));clear HB;have HB:=n0_;have BK317:=n1_;have GW317:=n2_;have GE317:=n3_;clear n0_ n1_ n2_ n3_;clear hb hbox hg;have hcz30_0:w29.cell? ⟨gb317,0,none⟩ = some (.slice A0_0 l0_0.length c0_0):=(zI BK317.out 0).trans rfl;have hcz30_1:w29.cell? ⟨gb317,1,none⟩ = some (.slice A0_1 l0_1.length c0_1):=(zI BK317.out 1).trans rfl;have hfz30_0:=zJ BK317.out 0;have hfz30_1:=zJ BK317.out 1)|(go_at_call 16;(with_reducible refine (model_Check.calls k _ _ l0_0 _ _ l0_1 t318 _ ?side1 ?side2 ?side3 ?side4 ?side5 A3.out).mono ?_);(case side1=>repeat (first|exact (zT HR0_0.out HB.out)|(with_reducible refine Kd.C_alloc ?_ _)|(with_reducible refine Kd.C_drewN ?_ _)|(with_reducible refine Kd.C_drew ?_)));(case side2=>exact HC0_0.out);(case side3=>repeat (first|exact (zT HR0_1.out HB.out)|(with_reducible refine Kd.C_alloc ?_ _)|(with_reducible refine Kd.C_drewN ?_ _)|(with_reducible refine Kd.C_drew ?_)));(case side4=>exact HC0_1.out);(case side5=>first|exact LaidG.below HLd.out (by repeat (first|(with_reducible first|exact HB.out|apply zD|apply zC|apply zE|refine zF ?_ GE317.out)|exact HB.out))|(refine LaidG.below HLd.out ?_;repeat (with_reducible first|exact HB.out|exact Below.refl _ _|apply zD|apply zC|apply zE);done));rintro e w31 ⟨rfl,hb⟩;have n0_:=zA (zN (g:=gb317) (o:=.cells #[.slice A0_0 l0_0.length c0_0,.slice A0_1 l0_1.length c0_1] 25 (0,0)) (by (with_reducible repeat (first|refine zL ?_ _|refine zM ?_|refine zK ?_ _));exact BK317.out) hb);have n1_:=zA (zH (by repeat (first|(with_reducible first|exact HB.out|apply zD|apply zC|apply zE|refine zF ?_ GE317.out)|exact HB.out)) hb);clear BK317;clear HB;have BK317:=n0_;have HB:=n1_;clear n0_ n1_;(try clear hb);(try clear hb2);(try clear hk);(try clear hi))))
  go_ret2
  exact ⟨by first|rfl|(simp [errW_none,errW_some] <;> rfl)|(simp [*,errW_none,errW_some] <;> rfl),by repeat (first|(with_reducible first|exact HB.out|apply zD|apply zC|apply zE|refine zF ?_ GE317.out)|exact HB.out)⟩
 
/-! ### foretellref_CodeOf: function 26 -/
def foretellref_CodeOf.l0:Nat → List Int → Int → Int → List (S74) → List (S68) → Option (Int × Int)
 | 0,_,_,_,_,_=>none
 | k + 1,x1,x7,x8,x325000,x325001=>if x8 < (x1.length:Int) then (if 0 ≤ x8 then (if x8 < (x325000.length:Int) then ((foretellref_In.f (rd x1 x8) ((rd_T74 x325000 x8).f1) ((rd_T74 x325000 x8).f2)).bind fun t329=>(if t329 = true then ((foretellref_behindVar.f k x325000 x325001 x8).bind fun t332=>(foretellref_CodeOf.l0 k x1 (wrap64 (x7 + (wrap64 ((wrap64 ((rd x1 x8) - ((rd_T74 x325000 x8).f1))) * t332)))) (wrap64 (x8 + 1)) x325000 x325001)) else (some (0,9)))) else (none)) else (none)) else (some (x7,0))
def foretellref_CodeOf.f (k:Nat) (l0_0:List (S74)) (l0_1:List (S68)) (l1:List Int):Option (Int × Int):=(foretellref_ModelFault.f k l0_0 l0_1).bind fun t325=>(if t325 = 0 then (if (l1.length:Int) = (l0_0.length:Int) then (foretellref_CodeOf.l0 k l1 0 0 l0_0 l0_1) else (some (0,9))) else (some (0,t325)))
theorem foretellref_CodeOf.mono_l:∀ k,(∀ y0 y1 y2 y3 y4,LeO (foretellref_CodeOf.l0 k y0 y1 y2 y3 y4) (foretellref_CodeOf.l0 (k + 1) y0 y1 y2 y3 y4))
 | 0=>fun _ _ _ _ _ r h=>by simp [foretellref_CodeOf.l0] at h
 | k + 1=>by
  have ih0:=foretellref_CodeOf.mono_l k
  ·intro y0 y1 y2 y3 y4
   unfold foretellref_CodeOf.l0
   repeat' first
   | (with_reducible exact ih0 _ _ _ _ _)
   | (with_reducible exact foretellref_ModelFault.mono _ _ _)
   | (with_reducible exact foretellref_behindVar.mono _ _ _ _)
   | (with_reducible exact LeO.refl _)
   | (with_reducible exact LeO.none _)
   | (with_reducible refine LeO.ite ?_ ?_)
   | (with_reducible refine LeO.bind ?_ (fun _=>?_))
   | exact ih0 _ _ _ _ _
   | exact foretellref_ModelFault.mono _ _ _
   | exact foretellref_behindVar.mono _ _ _ _
   | exact LeO.none _
   | refine LeO.ite ?_ ?_
   | refine LeO.bind ?_ (fun _=>?_)
theorem foretellref_CodeOf.mono:∀ a0 a1 a2 k,LeO (foretellref_CodeOf.f k a0 a1 a2) (foretellref_CodeOf.f (k + 1) a0 a1 a2):=by
 intro a0 a1 a2 k
 have ih0:=foretellref_CodeOf.mono_l k
 unfold foretellref_CodeOf.f
 repeat' first
   | (with_reducible exact ih0 _ _ _ _ _)
   | (with_reducible exact foretellref_ModelFault.mono _ _ _)
   | (with_reducible exact foretellref_behindVar.mono _ _ _ _)
   | (with_reducible exact LeO.refl _)
   | (with_reducible exact LeO.none _)
   | (with_reducible refine LeO.ite ?_ ?_)
   | (with_reducible refine LeO.bind ?_ (fun _=>?_))
   | exact ih0 _ _ _ _ _
   | exact foretellref_ModelFault.mono _ _ _
   | exact foretellref_behindVar.mono _ _ _ _
   | exact LeO.none _
   | refine LeO.ite ?_ ?_
   | refine LeO.bind ?_ (fun _=>?_)
def foretellref_CodeOf.T10:Bool × List (List Nat × List Nat):=(true,[([],[]),([],[]),([0,1],[0,1]),([2],[2]),([],[]),([4],[4]),([],[]),([5,6],[5,6]),([7],[7]),([8],[8]),([],[]),([10],[10]),([],[]),([11,12],[11,12]),([13],[13]),([14],[14]),([3,9,15],[3,9,15]),([16],[16])])
def foretellref_CodeOf.B10:List Nat:=[0,0,3,7,0,16,0,112,240,496,0,1024,0,7168,15360,31744,65535,131071]
theorem foretellref_CodeOf.tab10:rtab .any (opsOf Tryd.f26 10) = foretellref_CodeOf.T10:=by kernel_rfl
theorem foretellref_CodeOf.bits10:waitsOk foretellref_CodeOf.T10.2 foretellref_CodeOf.B10 = true:=by kernel_rfl
def foretellref_CodeOf.T12:Bool × List (List Nat × List Nat):=(true,[([],[]),([],[]),([],[]),([1,2],[1,2]),([3],[3]),([],[]),([5],[5]),([],[]),([6,7],[6,7]),([8],[8]),([9],[9]),([4,10],[4,10]),([],[]),([],[]),([12,13],[12,13]),([11,14],[11,14]),([0,15],[0,15]),([16,14,0,1,2,3,4,5,6,7,8,9,10,11,12,13,14,15,16],[0,16])])
def foretellref_CodeOf.B12:List Nat:=[0,0,0,6,14,0,32,0,224,480,992,2046,0,0,12288,32766,65535,131071]
theorem foretellref_CodeOf.tab12:rtab .any (opsOf Tryd.f26 12) = foretellref_CodeOf.T12:=by kernel_rfl
theorem foretellref_CodeOf.bits12:waitsOk foretellref_CodeOf.T12.2 foretellref_CodeOf.B12 = true:=by kernel_rfl
set_option maxHeartbeats 8000000 in
set_option maxRecDepth 100000 in
theorem foretellref_CodeOf.calls (k:Nat) (A0_0:Option Addr) (c0_0:Nat) (l0_0:List (S74)) (A0_1:Option Addr) (c0_1:Nat) (l0_1:List (S68)) (A1:Option Addr) (c1:Nat) (l1:List Int) (r1:Int) (r2:Int) (w:World) (hr0_0:Kd.C k74 w A0_0 l0_0.length l0_0) (hc0_0:l0_0.length ≤ c0_0) (hr0_1:Kd.C k68 w A0_1 l0_1.length l0_1) (hc0_1:l0_1.length ≤ c0_1) (hr1:Kd.C (Kd.int .i64) w A1 l1.length l1) (hc1:l1.length ≤ c1) (h:foretellref_CodeOf.f k l0_0 l0_1 l1 = some (r1,r2)) :
  Calls Tryd.prog 26 #[.agg #[.slice A0_0 l0_0.length c0_0,.slice A0_1 l0_1.length c0_1],.slice A1 l1.length c1] w fun e w'=>e = .returned (.tuple #[.int .i64 r1,.int .i64 r2])∧Below w.heap.size w w':=by
 have hu25:=Tryd.underlying25
 have HR0_0:=zA hr0_0
 have HC0_0:=zA hc0_0
 clear hr0_0 hc0_0
 have HR0_1:=zA hr0_1
 have HC0_1:=zA hc0_1
 clear hr0_1 hc0_1
 have HR1:=zA hr1
 have HC1:=zA hc1
 clear hr1 hc1
 have HB:=zA (Below.refl w.heap.size w)
 have H:((foretellref_ModelFault.f k l0_0 l0_1).bind fun t325=>(if t325 = 0 then (if (l1.length:Int) = (l0_0.length:Int) then (foretellref_CodeOf.l0 k l1 0 0 l0_0 l0_1) else (some (0,9))) else (some (0,t325)))) = some (r1,r2):=h
 clear h
 replace H:=zb.mp H
 obtain ⟨t325,A30,H⟩:=H
 replace H:(if t325 = 0 then (if (l1.length:Int) = (l0_0.length:Int) then (foretellref_CodeOf.l0 k l1 0 0 l0_0 l0_1) else (some (0,9))) else (some (0,t325))) = some (r1,r2):=H
 have A3:=zA A30
 clear A30
 by_cases c4:t325 = 0
 ·rw [if_pos c4] at H
  have c4b0:(t325 == 0) = true:=beq_iff_eq.mpr c4
  have c4b1:(t325 != 0) = false:=bne_eq_false_iff_eq.mpr c4
  clear c4
  by_cases c5:(l1.length:Int) = (l0_0.length:Int)
  ·rw [if_pos c5] at H
   have c5b0:((l1.length:Int) == (l0_0.length:Int)) = true:=beq_iff_eq.mpr c5
   have c5b1:((l1.length:Int) != (l0_0.length:Int)) = false:=bne_eq_false_iff_eq.mpr c5
   have c5b2:(l1.length == l0_0.length) = true:=by first|simpa using c5|(simp at c5 ⊢;omega)
   clear c5
   have H':=zA H
   clear H
   go_enter Tryd.func26,Tryd.ntmps26
   go_wp2_with (first|((with_reducible refine zV (N:=2) rfl ?_);refine zW ?hg (N:=2) ?hd (cs:=#[.slice A0_0 l0_0.length c0_0,.slice A0_1 l0_1.length c0_1]) (t:=25) ?hr ?_;(case hd=>rfl);(case hg=>rfl);(case hr=>first|(go_simp;done)|(go_simp;rfl));intro gb324 hg w6 hbox hb;have n0_:=zA (zH (by repeat (first|(with_reducible first|exact HB.out|apply zD|apply zC|apply zE)|exact HB.out)) hb);have n1_:=zA (hbox);have n2_:=zA ((by rw [hg];exact (zG (by repeat (first|(with_reducible first|exact HB.out|apply zD|apply zC|apply zE)|exact HB.out))):w.heap.size ≤ gb324));have n3_:=zA ((by rw [hg];exact (zG (by repeat (first|(with_reducible first|exact HB.out|apply zD|apply zC|apply zE)|exact HB.out))):w.heap.size ≤ gb324));clear HB;have HB:=n0_;have BK324:=n1_;have GW324:=n2_;have GE324:=n3_;clear n0_ n1_ n2_ n3_;clear hb hbox hg;have hcz7_0:w6.cell? ⟨gb324,0,none⟩ = some (.slice A0_0 l0_0.length c0_0):=(zI BK324.out 0).trans rfl;have hcz7_1:w6.cell? ⟨gb324,1,none⟩ = some (.slice A0_1 l0_1.length c0_1):=(zI BK324.out 1).trans rfl;have hfz7_0:=zJ BK324.out 0;have hfz7_1:=zJ BK324.out 1)|((with_reducible refine zU (f:=17) rfl ?_);refine goesL_ (some 10) rfl rfl Tryd.func17 (by kernel_rfl) rfl #[.agg #[.slice A0_0 l0_0.length c0_0,.slice A0_1 l0_1.length c0_1]] rfl (by (try simp only [zx,zy,zz]);first|done|rfl|(simp only [zd,zt];rfl)) ?_;(with_reducible refine (foretellref_ModelFault.calls k _ _ l0_0 _ _ l0_1 t325 _ ?side1 ?side2 ?side3 ?side4 A3.out).mono ?_);(case side1=>repeat (first|exact (zT HR0_0.out HB.out)|(with_reducible refine Kd.C_alloc ?_ _)|(with_reducible refine Kd.C_drewN ?_ _)|(with_reducible refine Kd.C_drew ?_)));(case side2=>exact HC0_0.out);(case side3=>repeat (first|exact (zT HR0_1.out HB.out)|(with_reducible refine Kd.C_alloc ?_ _)|(with_reducible refine Kd.C_drewN ?_ _)|(with_reducible refine Kd.C_drew ?_)));(case side4=>exact HC0_1.out);rintro e w8 ⟨rfl,hb⟩;refine ⟨_,rfl,?_⟩;have n0_:=zA (zN (g:=gb324) (o:=.cells #[.slice A0_0 l0_0.length c0_0,.slice A0_1 l0_1.length c0_1] 25 (0,0)) (by (with_reducible repeat (first|refine zL ?_ _|refine zM ?_|refine zK ?_ _));exact BK324.out) hb);have n1_:=zA (zH (by repeat (first|(with_reducible first|exact HB.out|apply zD|apply zC|apply zE|refine zF ?_ GE324.out)|exact HB.out)) hb);clear BK324;clear HB;have BK324:=n0_;have HB:=n1_;clear n0_ n1_;(try clear hb);(try clear hb2);(try clear hk);(try clear hi);have hcz9_0:w8.cell? ⟨gb324,0,none⟩ = some (.slice A0_0 l0_0.length c0_0):=(zI BK324.out 0).trans rfl;have hcz9_1:w8.cell? ⟨gb324,1,none⟩ = some (.slice A0_1 l0_1.length c0_1):=(zI BK324.out 1).trans rfl;have hfz9_0:=zJ BK324.out 0;have hfz9_1:=zJ BK324.out 1))
   go_loopg [7,8] k (fun kq v7 v8 w'=>∃ (x7_1:Int) (x8_1:Int),v7 = .int .i64 x7_1∧v8 = .int .i64 x8_1∧Aside0 (foretellref_CodeOf.l0 kq l1 x7_1 x8_1 l0_0 l0_1 = some (r1,r2))∧Aside0 (kq ≤ k)∧Aside0 (w'.heap[gb324]? = some (.cells #[(.slice A0_0 l0_0.length c0_0),(.slice A0_1 l0_1.length c0_1)] 25 (0,0)))∧Aside0 (Below w.heap.size w w'))
   case atStart=>exact ⟨(0),(0),(by first|rfl|(simp;done)|(simp [*];done)),(by first|rfl|(simp;done)|(simp [*];done)),H',⟨Nat.le_refl _⟩,⟨by (with_reducible repeat (first|refine zL ?_ _|refine zM ?_|refine zK ?_ _));exact BK324.out⟩,⟨by repeat (first|(with_reducible first|exact HB.out|apply zD|apply zC|apply zE|refine zF ?_ GE324.out)|exact HB.out)⟩⟩
   case round =>
    clear H'
    try clear c1
    try clear c2
    try clear p2
    try clear c4
    try clear c4b0
    try clear c4b1
    try clear c5
    try clear c5b0
    try clear c5b1
    try clear c5b2
    try clear hcz7_0
    try clear hcz7_1
    try clear hcz9_0
    try clear hcz9_1
    try clear hfz7_0
    try clear hfz7_1
    try clear hfz9_0
    try clear hfz9_1
    obtain ⟨x7_1,x8_1,rfl,rfl,HA,HK1,BK324,HB⟩:=hrel
    cases gk with
    | zero=>exact absurd HA.out (by simp [foretellref_CodeOf.l0])
    | succ k1 =>
     have H:=HA.out
     clear HA
     simp only [foretellref_CodeOf.l0] at H
     by_cases c10:x8_1 < (l1.length:Int)
     ·rw [if_pos c10] at H
      have c10b0:decide (x8_1 < (l1.length:Int)) = true:=zQ c10
      clear c10
      by_cases c11:0 ≤ x8_1
      ·rw [if_pos c11] at H
       have c11b0:decide (0 ≤ x8_1) = true:=zQ c11
       clear c11
       by_cases c12:x8_1 < (l0_0.length:Int)
       ·rw [if_pos c12] at H
        have c12b0:decide (x8_1 < (l0_0.length:Int)) = true:=zQ c12
        clear c12
        replace H:=zb.mp H
        obtain ⟨t329,A130,H⟩:=H
        replace H:(if t329 = true then ((foretellref_behindVar.f k1 l0_0 l0_1 x8_1).bind fun t332=>(foretellref_CodeOf.l0 k1 l1 (wrap64 (x7_1 + (wrap64 ((wrap64 ((rd l1 x8_1) - ((rd_T74 l0_0 x8_1).f1))) * t332)))) (wrap64 (x8_1 + 1)) l0_0 l0_1)) else (some (0,9))) = some (r1,r2):=H
        have A13:=zA A130
        clear A130
        by_cases c14:t329 = true
        ·subst c14
         have H1:((foretellref_behindVar.f k1 l0_0 l0_1 x8_1).bind fun t332=>(foretellref_CodeOf.l0 k1 l1 (wrap64 (x7_1 + (wrap64 ((wrap64 ((rd l1 x8_1) - ((rd_T74 l0_0 x8_1).f1))) * t332)))) (wrap64 (x8_1 + 1)) l0_0 l0_1)) = some (r1,r2):=by rw [if_pos rfl] at H;exact H
         clear H
         have H:=H1
         clear H1
         replace H:=zb.mp H
         obtain ⟨t332,A150,H⟩:=H
         replace H:(foretellref_CodeOf.l0 k1 l1 (wrap64 (x7_1 + (wrap64 ((wrap64 ((rd l1 x8_1) - ((rd_T74 l0_0 x8_1).f1))) * t332)))) (wrap64 (x8_1 + 1)) l0_0 l0_1) = some (r1,r2):=H
         have A15:=zA A150
         clear A150
         have H':=zA H
         clear H
         try go_wp2
         have n0_:=zA (zM BK324.out)
         have n1_:=zA (zE HB.out)
         clear BK324
         clear HB
         have BK324:=n0_
         have HB:=n1_
         clear n0_ n1_
         have p326:0 ≤ (x8_1:Int):=zP (by assumption)
         have q326:x8_1 < (l1.length:Int):=zP (by assumption)
         obtain ⟨ad326,e326,hx326_0⟩:=Kd.at_int HR1.out x8_1 p326 q326
         have hw326_0:=hx326_0
         cases e326
         replace hx326_0:=(HB.out.cell (zB w _ hx326_0)).trans hx326_0
         replace p326:=eq_true p326
         replace q326:=eq_true q326
         have p327:0 ≤ (x8_1:Int):=zP (by assumption)
         have q327:x8_1 < (l0_0.length:Int):=zP (by assumption)
         obtain ⟨ad327,e327,hx327_0,hx327_1,hx327_2,hx327_3⟩:=at_T74 HR0_0.out x8_1 p327 q327
         have hw327_3:=hx327_3
         have hw327_2:=hx327_2
         have hw327_1:=hx327_1
         have hw327_0:=hx327_0
         cases e327
         replace hx327_0:=(HB.out.cell (zB w _ hx327_0)).trans hx327_0
         replace hx327_1:=(HB.out.cell (zB w _ hx327_1)).trans hx327_1
         replace hx327_2:=(HB.out.cell (zB w _ hx327_2)).trans hx327_2
         replace hx327_3:=(HB.out.cell (zB w _ hx327_3)).trans hx327_3
         replace p327:=eq_true p327
         replace q327:=eq_true q327
         have p328:0 ≤ (x8_1:Int):=zP (by assumption)
         have q328:x8_1 < (l0_0.length:Int):=zP (by assumption)
         obtain ⟨ad328,e328,hx328_0,hx328_1,hx328_2,hx328_3⟩:=at_T74 HR0_0.out x8_1 p328 q328
         have hw328_3:=hx328_3
         have hw328_2:=hx328_2
         have hw328_1:=hx328_1
         have hw328_0:=hx328_0
         obtain rfl:ad327 = ad328:=(by injection e328)
         replace hx328_0:=(HB.out.cell (zB w _ hx328_0)).trans hx328_0
         replace hx328_1:=(HB.out.cell (zB w _ hx328_1)).trans hx328_1
         replace hx328_2:=(HB.out.cell (zB w _ hx328_2)).trans hx328_2
         replace hx328_3:=(HB.out.cell (zB w _ hx328_3)).trans hx328_3
         replace p328:=eq_true p328
         replace q328:=eq_true q328
         refine start_ (n:=18) (S:=fun w'=>w'.cell? ⟨gb324,0,none⟩ = some (.slice (some ad327) l0_0.length c0_0)∧w'.cell? ⟨gb324,1,none⟩ = some (.slice A0_1 l0_1.length c0_1)∧w'.cell? (ad326.add (x8_1).toNat) = some (.int .i64 (rd l1 x8_1))∧w'.cell? (ad327.add ((x8_1).toNat * 4)) = some (.string ((rd_T74 l0_0 x8_1).f0))∧w'.cell? ⟨(ad327.add ((x8_1).toNat * 4)).block,(ad327.add ((x8_1).toNat * 4)).off + 1,none⟩ = some (.int .i64 ((rd_T74 l0_0 x8_1).f1))∧w'.cell? ⟨(ad327.add ((x8_1).toNat * 4)).block,(ad327.add ((x8_1).toNat * 4)).off + 2,none⟩ = some (.int .i64 ((rd_T74 l0_0 x8_1).f2))∧w'.cell? ⟨(ad327.add ((x8_1).toNat * 4)).block,(ad327.add ((x8_1).toNat * 4)).off + 3,none⟩ = some (.int .i64 ((rd_T74 l0_0 x8_1).f3))∧w'.cell? (ad327.add ((x8_1).toNat * 4)) = some (.string ((rd_T74 l0_0 x8_1).f0))∧w'.cell? ⟨(ad327.add ((x8_1).toNat * 4)).block,(ad327.add ((x8_1).toNat * 4)).off + 1,none⟩ = some (.int .i64 ((rd_T74 l0_0 x8_1).f1))∧w'.cell? ⟨(ad327.add ((x8_1).toNat * 4)).block,(ad327.add ((x8_1).toNat * 4)).off + 2,none⟩ = some (.int .i64 ((rd_T74 l0_0 x8_1).f2))∧w'.cell? ⟨(ad327.add ((x8_1).toNat * 4)).block,(ad327.add ((x8_1).toNat * 4)).off + 3,none⟩ = some (.int .i64 ((rd_T74 l0_0 x8_1).f3))) (ds:=[]) #[false,false,false,false,false,false,false,false,false,false,false,false,false,false,false,false,false,false] (by kernel_rfl) rfl rfl ⟨(zI BK324.out 0).trans rfl,(zI BK324.out 1).trans rfl,((HB.out.cell (zB w _ hw326_0)).trans hw326_0),((HB.out.cell (zB w _ hw327_0)).trans hw327_0),((HB.out.cell (zB w _ hw327_1)).trans hw327_1),((HB.out.cell (zB w _ hw327_2)).trans hw327_2),((HB.out.cell (zB w _ hw327_3)).trans hw327_3),((HB.out.cell (zB w _ hw328_0)).trans hw328_0),((HB.out.cell (zB w _ hw328_1)).trans hw328_1),((HB.out.cell (zB w _ hw328_2)).trans hw328_2),((HB.out.cell (zB w _ hw328_3)).trans hw328_3)⟩ (fun hHeld=>?_);refine with_tabW foretellref_CodeOf.tab10 foretellref_CodeOf.bits10 (fun HT_ HW_=>?_)
         generalize wr.drew = w16 at BK324 HB hx326_0 hx327_0 hx327_1 hx327_2 hx327_3 hx328_0 hx328_1 hx328_2 hx328_3 hHeld ⊢
         refine pure_ (i:=0) (N:=some 26) (v:=?_) (a':=?_) #[true,false,false,false,false,false,false,false,false,false,false,false,false,false,false,false,false,false] rfl rfl (any_of HT_.out (by kernel_rfl)) (fun _ _ _ h=>h) (Or.inl ⟨by rfl,?_⟩) ?_ ?_
         rotate_left
         ·intro w'
          go_simp
          with_reducible rfl
         rotate_left
         ·simp only [Act.put,zX,zY,zZ,i64_w,i32_w]
          rfl
         refine pure_ (i:=1) (N:=some 27) (v:=?_) (a':=?_) #[true,true,false,false,false,false,false,false,false,false,false,false,false,false,false,false,false,false] rfl rfl (any_of HT_.out (by kernel_rfl)) (fun _ _ _ h=>h) (Or.inl ⟨by rfl,?_⟩) ?_ ?_
         rotate_left
         ·intro w'
          go_simp
          with_reducible rfl
         rotate_left
         ·simp only [Act.put,zX,zY,zZ,i64_w,i32_w]
          rfl
         refine pure_ (i:=2) (N:=some 28) (v:=?_) (a':=?_) #[true,true,true,false,false,false,false,false,false,false,false,false,false,false,false,false,false,false] rfl rfl (any_of HT_.out (by kernel_rfl)) (fun _ _ _ h=>h) (Or.inl ⟨by rfl,?_⟩) ?_ ?_
         rotate_left
         ·intro w'
          go_simp
          with_reducible rfl
         rotate_left
         ·simp only [Act.put,zX,zY,zZ,i64_w,i32_w]
          rfl
         refine pure_ (i:=4) (N:=some 30) (v:=?_) (a':=?_) #[true,true,true,false,true,false,false,false,false,false,false,false,false,false,false,false,false,false] rfl rfl (any_of HT_.out (by kernel_rfl)) (fun _ _ _ h=>h) (Or.inl ⟨by rfl,?_⟩) ?_ ?_
         rotate_left
         ·intro w'
          go_simp
          with_reducible rfl
         rotate_left
         ·simp only [Act.put,zX,zY,zZ,i64_w,i32_w]
          rfl
         refine pure_ (i:=6) (N:=some 32) (v:=?_) (a':=?_) #[true,true,true,false,true,false,true,false,false,false,false,false,false,false,false,false,false,false] rfl rfl (any_of HT_.out (by kernel_rfl)) (fun _ _ _ h=>h) (Or.inl ⟨by rfl,?_⟩) ?_ ?_
         rotate_left
         ·intro w'
          go_simp
          with_reducible rfl
         rotate_left
         ·simp only [Act.put,zX,zY,zZ,i64_w,i32_w]
          rfl
         refine pure_ (i:=10) (N:=some 36) (v:=?_) (a':=?_) #[true,true,true,false,true,false,true,false,false,false,true,false,false,false,false,false,false,false] rfl rfl (any_of HT_.out (by kernel_rfl)) (fun _ _ _ h=>h) (Or.inl ⟨by rfl,?_⟩) ?_ ?_
         rotate_left
         ·intro w'
          go_simp
          with_reducible rfl
         rotate_left
         ·simp only [Act.put,zX,zY,zZ,i64_w,i32_w]
          rfl
         refine pure_ (i:=12) (N:=some 38) (v:=?_) (a':=?_) #[true,true,true,false,true,false,true,false,false,false,true,false,true,false,false,false,false,false] rfl rfl (any_of HT_.out (by kernel_rfl)) (fun _ _ _ h=>h) (Or.inl ⟨by rfl,?_⟩) ?_ ?_
         rotate_left
         ·intro w'
          go_simp
          with_reducible rfl
         rotate_left
         ·simp only [Act.put,zX,zY,zZ,i64_w,i32_w]
          rfl
         refine take_ (i:=3) (N:=some 29) (v:=?_) (a':=?_) #[true,true,true,true,true,false,true,false,false,false,true,false,true,false,false,false,false,false] rfl rfl (take_ofW HT_.out HW_.out (by kernel_rfl)) (fun _ _ _ h=>h) (Or.inl ⟨by rfl,?_⟩) hHeld ?_ ?_
         rotate_left
         ·rintro w' ⟨s0,s1,s2,s3,s4,s5,s6,s7,s8,s9,s10⟩
          go_simp
          with_reducible rfl
         rotate_left
         ·simp only [Act.put,zX,zY,zZ,i64_w,i32_w]
          rfl
         refine take_ (i:=5) (N:=some 31) (v:=?_) (a':=?_) #[true,true,true,true,true,true,true,false,false,false,true,false,true,false,false,false,false,false] rfl rfl (take_ofW HT_.out HW_.out (by kernel_rfl)) (fun _ _ _ h=>h) (Or.inl ⟨by rfl,?_⟩) hHeld ?_ ?_
         rotate_left
         ·rintro w' ⟨s0,s1,s2,s3,s4,s5,s6,s7,s8,s9,s10⟩
          go_simp
          with_reducible rfl
         rotate_left
         ·simp only [Act.put,zX,zY,zZ,i64_w,i32_w]
          rfl
         refine pure_ (i:=7) (N:=some 33) (v:=?_) (a':=?_) #[true,true,true,true,true,true,true,true,false,false,true,false,true,false,false,false,false,false] rfl rfl (any_of HT_.out (by kernel_rfl)) (fun _ _ _ h=>h) (Or.inl ⟨by rfl,?_⟩) ?_ ?_
         rotate_left
         ·intro w'
          go_simp
          with_reducible rfl
         rotate_left
         ·simp only [Act.put,zX,zY,zZ,i64_w,i32_w]
          rfl
         refine pure_ (i:=8) (N:=some 34) (v:=?_) (a':=?_) #[true,true,true,true,true,true,true,true,true,false,true,false,true,false,false,false,false,false] rfl rfl (any_of HT_.out (by kernel_rfl)) (fun _ _ _ h=>h) (Or.inl ⟨by rfl,?_⟩) ?_ ?_
         rotate_left
         ·intro w'
          go_simp
          with_reducible rfl
         rotate_left
         ·simp only [Act.put,zX,zY,zZ,i64_w,i32_w]
          rfl
         refine take_ (i:=9) (N:=some 35) (v:=?_) (a':=?_) #[true,true,true,true,true,true,true,true,true,true,true,false,true,false,false,false,false,false] rfl rfl (take_ofW HT_.out HW_.out (by kernel_rfl)) (fun _ _ _ h=>h) (Or.inl ⟨by rfl,?_⟩) hHeld ?_ ?_
         rotate_left
         ·rintro w' ⟨s0,s1,s2,s3,s4,s5,s6,s7,s8,s9,s10⟩
          go_simp
          with_reducible rfl
         rotate_left
         ·simp only [Act.put,zX,zY,zZ,i64_w,i32_w]
          rfl
         refine take_ (i:=11) (N:=some 37) (v:=?_) (a':=?_) #[true,true,true,true,true,true,true,true,true,true,true,true,true,false,false,false,false,false] rfl rfl (take_ofW HT_.out HW_.out (by kernel_rfl)) (fun _ _ _ h=>h) (Or.inl ⟨by rfl,?_⟩) hHeld ?_ ?_
         rotate_left
         ·rintro w' ⟨s0,s1,s2,s3,s4,s5,s6,s7,s8,s9,s10⟩
          go_simp
          with_reducible rfl
         rotate_left
         ·simp only [Act.put,zX,zY,zZ,i64_w,i32_w]
          rfl
         refine pure_ (i:=13) (N:=some 39) (v:=?_) (a':=?_) #[true,true,true,true,true,true,true,true,true,true,true,true,true,true,false,false,false,false] rfl rfl (any_of HT_.out (by kernel_rfl)) (fun _ _ _ h=>h) (Or.inl ⟨by rfl,?_⟩) ?_ ?_
         rotate_left
         ·intro w'
          go_simp
          with_reducible rfl
         rotate_left
         ·simp only [Act.put,zX,zY,zZ,i64_w,i32_w]
          rfl
         refine pure_ (i:=14) (N:=some 40) (v:=?_) (a':=?_) #[true,true,true,true,true,true,true,true,true,true,true,true,true,true,true,false,false,false] rfl rfl (any_of HT_.out (by kernel_rfl)) (fun _ _ _ h=>h) (Or.inl ⟨by rfl,?_⟩) ?_ ?_
         rotate_left
         ·intro w'
          go_simp
          with_reducible rfl
         rotate_left
         ·simp only [Act.put,zX,zY,zZ,i64_w,i32_w]
          rfl
         refine take_ (i:=15) (N:=some 41) (v:=?_) (a':=?_) #[true,true,true,true,true,true,true,true,true,true,true,true,true,true,true,true,false,false] rfl rfl (take_ofW HT_.out HW_.out (by kernel_rfl)) (fun _ _ _ h=>h) (Or.inl ⟨by rfl,?_⟩) hHeld ?_ ?_
         rotate_left
         ·rintro w' ⟨s0,s1,s2,s3,s4,s5,s6,s7,s8,s9,s10⟩
          go_simp
          with_reducible rfl
         rotate_left
         ·simp only [Act.put,zX,zY,zZ,i64_w,i32_w]
          rfl
         refine one_ (i:=16) (N:=some 42) #[true,true,true,true,true,true,true,true,true,true,true,true,true,true,true,true,true,false] rfl rfl (one_of HT_.out (by kernel_rfl)) (by decide) (fun K hK=>?_)
         refine goes_ Tryd.func56 (by kernel_rfl) rfl #[.int .i64 (rd l1 x8_1),.int .i64 ((rd_T74 l0_0 x8_1).f1),.int .i64 ((rd_T74 l0_0 x8_1).f2)] (by rfl) rfl rfl (by (try simp only [zx,zy,zz]);first|done|rfl|(simp only [zd,zt];rfl)) ?_
         with_reducible refine (foretellref_In.calls (rd l1 x8_1) ((rd_T74 l0_0 x8_1).f1) ((rd_T74 l0_0 x8_1).f2) true _ A13.out).mono ?_
         rintro e w' ⟨rfl,⟨nd,rfl⟩⟩
         refine ⟨_,rfl,?_⟩
         refine hK.out _ _ ⟨(zI BK324.out 0).trans rfl,(zI BK324.out 1).trans rfl,((HB.out.cell (zB w _ hw326_0)).trans hw326_0),((HB.out.cell (zB w _ hw327_0)).trans hw327_0),((HB.out.cell (zB w _ hw327_1)).trans hw327_1),((HB.out.cell (zB w _ hw327_2)).trans hw327_2),((HB.out.cell (zB w _ hw327_3)).trans hw327_3),((HB.out.cell (zB w _ hw328_0)).trans hw328_0),((HB.out.cell (zB w _ hw328_1)).trans hw328_1),((HB.out.cell (zB w _ hw328_2)).trans hw328_2),((HB.out.cell (zB w _ hw328_3)).trans hw328_3)⟩ (fun hHeld=>?_)
         clear hK K
         refine norm_ (a':=?_) ?_ ?_
         rotate_left
         ·show Act.put _ (some 42) _ = _
          simp only [Act.put,zX,zY,zZ,i64_w,i32_w]
          rfl
         refine pure_ (i:=17) (N:=some 43) (v:=?_) (a':=?_) #[true,true,true,true,true,true,true,true,true,true,true,true,true,true,true,true,true,true] rfl rfl (any_of HT_.out (by kernel_rfl)) (fun _ _ _ h=>h) (Or.inl ⟨by rfl,?_⟩) ?_ ?_
         rotate_left
         ·intro w'
          go_simp
          with_reducible rfl
         rotate_left
         ·simp only [Act.put,zX,zY,zZ,i64_w,i32_w]
          rfl
         refine done_ (done_of HT_.out (by kernel_rfl)) ?_
         try go_wp2
         (try (rw [drewN_self w16];generalize hq_:World.drewN w16 _ = w16;have n0_:Aside0 (w16.heap[gb324]? = some (.cells #[.slice (some ad327) l0_0.length c0_0,.slice A0_1 l0_1.length c0_1] 25 (0,0))):=⟨by rw [← hq_];exact (by (with_reducible repeat (first|refine zL ?_ _|refine zM ?_|refine zK ?_ _));exact BK324.out)⟩;have n1_:Aside0 (Below w.heap.size w w16):=⟨by rw [← hq_];exact (by repeat (first|(with_reducible first|exact HB.out|apply zD|apply zC|apply zE|refine zF ?_ GE324.out)|exact HB.out))⟩;clear BK324 HB hq_;have BK324:=n0_;have HB:=n1_;clear n0_ n1_))
         have n0_:=zA (zM BK324.out)
         have n1_:=zA (zE HB.out)
         clear BK324
         clear HB
         have BK324:=n0_
         have HB:=n1_
         clear n0_ n1_
         have p330:0 ≤ (x8_1:Int):=zP (by assumption)
         have q330:x8_1 < (l1.length:Int):=zP (by assumption)
         obtain ⟨ad330,e330,hx330_0⟩:=Kd.at_int HR1.out x8_1 p330 q330
         have hw330_0:=hx330_0
         obtain rfl:ad326 = ad330:=(by injection e330)
         replace hx330_0:=(HB.out.cell (zB w _ hx330_0)).trans hx330_0
         replace p330:=eq_true p330
         replace q330:=eq_true q330
         have p331:0 ≤ (x8_1:Int):=zP (by assumption)
         have q331:x8_1 < (l0_0.length:Int):=zP (by assumption)
         obtain ⟨ad331,e331,hx331_0,hx331_1,hx331_2,hx331_3⟩:=at_T74 HR0_0.out x8_1 p331 q331
         have hw331_3:=hx331_3
         have hw331_2:=hx331_2
         have hw331_1:=hx331_1
         have hw331_0:=hx331_0
         obtain rfl:ad327 = ad331:=(by injection e331)
         replace hx331_0:=(HB.out.cell (zB w _ hx331_0)).trans hx331_0
         replace hx331_1:=(HB.out.cell (zB w _ hx331_1)).trans hx331_1
         replace hx331_2:=(HB.out.cell (zB w _ hx331_2)).trans hx331_2
         replace hx331_3:=(HB.out.cell (zB w _ hx331_3)).trans hx331_3
         replace p331:=eq_true p331
         replace q331:=eq_true q331
         refine start_ (n:=18) (S:=fun w'=>w'.cell? ⟨gb324,0,none⟩ = some (.slice (some ad327) l0_0.length c0_0)∧w'.cell? ⟨gb324,1,none⟩ = some (.slice A0_1 l0_1.length c0_1)∧w'.cell? (ad326.add (x8_1).toNat) = some (.int .i64 (rd l1 x8_1))∧w'.cell? (ad327.add ((x8_1).toNat * 4)) = some (.string ((rd_T74 l0_0 x8_1).f0))∧w'.cell? ⟨(ad327.add ((x8_1).toNat * 4)).block,(ad327.add ((x8_1).toNat * 4)).off + 1,none⟩ = some (.int .i64 ((rd_T74 l0_0 x8_1).f1))∧w'.cell? ⟨(ad327.add ((x8_1).toNat * 4)).block,(ad327.add ((x8_1).toNat * 4)).off + 2,none⟩ = some (.int .i64 ((rd_T74 l0_0 x8_1).f2))∧w'.cell? ⟨(ad327.add ((x8_1).toNat * 4)).block,(ad327.add ((x8_1).toNat * 4)).off + 3,none⟩ = some (.int .i64 ((rd_T74 l0_0 x8_1).f3))) (ds:=[]) #[false,false,false,false,false,false,false,false,false,false,false,false,false,false,false,false,false,false] (by kernel_rfl) rfl rfl ⟨(zI BK324.out 0).trans rfl,(zI BK324.out 1).trans rfl,((HB.out.cell (zB w _ hw330_0)).trans hw330_0),((HB.out.cell (zB w _ hw331_0)).trans hw331_0),((HB.out.cell (zB w _ hw331_1)).trans hw331_1),((HB.out.cell (zB w _ hw331_2)).trans hw331_2),((HB.out.cell (zB w _ hw331_3)).trans hw331_3)⟩ (fun hHeld=>?_);refine with_tabW foretellref_CodeOf.tab12 foretellref_CodeOf.bits12 (fun HT_ HW_=>?_)
         generalize w16.drew = w17 at BK324 HB hx330_0 hx331_0 hx331_1 hx331_2 hx331_3 hHeld ⊢
         refine pure_ (i:=0) (N:=some 44) (v:=?_) (a':=?_) #[true,false,false,false,false,false,false,false,false,false,false,false,false,false,false,false,false,false] rfl rfl (any_of HT_.out (by kernel_rfl)) (fun _ _ _ h=>h) (Or.inl ⟨by rfl,?_⟩) ?_ ?_
         rotate_left
         ·intro w'
          go_simp
          with_reducible rfl
         rotate_left
         ·simp only [Act.put,zX,zY,zZ,i64_w,i32_w]
          rfl
         refine pure_ (i:=1) (N:=some 45) (v:=?_) (a':=?_) #[true,true,false,false,false,false,false,false,false,false,false,false,false,false,false,false,false,false] rfl rfl (any_of HT_.out (by kernel_rfl)) (fun _ _ _ h=>h) (Or.inl ⟨by rfl,?_⟩) ?_ ?_
         rotate_left
         ·intro w'
          go_simp
          with_reducible rfl
         rotate_left
         ·simp only [Act.put,zX,zY,zZ,i64_w,i32_w]
          rfl
         refine pure_ (i:=2) (N:=some 46) (v:=?_) (a':=?_) #[true,true,true,false,false,false,false,false,false,false,false,false,false,false,false,false,false,false] rfl rfl (any_of HT_.out (by kernel_rfl)) (fun _ _ _ h=>h) (Or.inl ⟨by rfl,?_⟩) ?_ ?_
         rotate_left
         ·intro w'
          go_simp
          with_reducible rfl
         rotate_left
         ·simp only [Act.put,zX,zY,zZ,i64_w,i32_w]
          rfl
         refine pure_ (i:=3) (N:=some 47) (v:=?_) (a':=?_) #[true,true,true,true,false,false,false,false,false,false,false,false,false,false,false,false,false,false] rfl rfl (any_of HT_.out (by kernel_rfl)) (fun _ _ _ h=>h) (Or.inl ⟨by rfl,?_⟩) ?_ ?_
         rotate_left
         ·intro w'
          go_simp
          with_reducible rfl
         rotate_left
         ·simp only [Act.put,zX,zY,zZ,i64_w,i32_w]
          rfl
         refine pure_ (i:=5) (N:=some 49) (v:=?_) (a':=?_) #[true,true,true,true,false,true,false,false,false,false,false,false,false,false,false,false,false,false] rfl rfl (any_of HT_.out (by kernel_rfl)) (fun _ _ _ h=>h) (Or.inl ⟨by rfl,?_⟩) ?_ ?_
         rotate_left
         ·intro w'
          go_simp
          with_reducible rfl
         rotate_left
         ·simp only [Act.put,zX,zY,zZ,i64_w,i32_w]
          rfl
         refine pure_ (i:=7) (N:=some 51) (v:=?_) (a':=?_) #[true,true,true,true,false,true,false,true,false,false,false,false,false,false,false,false,false,false] rfl rfl (any_of HT_.out (by kernel_rfl)) (fun _ _ _ h=>h) (Or.inl ⟨by rfl,?_⟩) ?_ ?_
         rotate_left
         ·intro w'
          go_simp
          with_reducible rfl
         rotate_left
         ·simp only [Act.put,zX,zY,zZ,i64_w,i32_w]
          rfl
         refine pure_ (i:=13) (N:=some 57) (v:=?_) (a':=?_) #[true,true,true,true,false,true,false,true,false,false,false,false,false,true,false,false,false,false] rfl rfl (any_of HT_.out (by kernel_rfl)) (fun _ _ _ h=>h) (Or.inl ⟨by rfl,?_⟩) ?_ ?_
         rotate_left
         ·intro w'
          go_simp
          with_reducible rfl
         rotate_left
         ·simp only [Act.put,zX,zY,zZ,i64_w,i32_w]
          rfl
         refine take_ (i:=4) (N:=some 48) (v:=?_) (a':=?_) #[true,true,true,true,true,true,false,true,false,false,false,false,false,true,false,false,false,false] rfl rfl (take_ofW HT_.out HW_.out (by kernel_rfl)) (fun _ _ _ h=>h) (Or.inl ⟨by rfl,?_⟩) hHeld ?_ ?_
         rotate_left
         ·rintro w' ⟨s0,s1,s2,s3,s4,s5,s6⟩
          go_simp
          with_reducible rfl
         rotate_left
         ·simp only [Act.put,zX,zY,zZ,i64_w,i32_w]
          rfl
         refine take_ (i:=6) (N:=some 50) (v:=?_) (a':=?_) #[true,true,true,true,true,true,true,true,false,false,false,false,false,true,false,false,false,false] rfl rfl (take_ofW HT_.out HW_.out (by kernel_rfl)) (fun _ _ _ h=>h) (Or.inl ⟨by rfl,?_⟩) hHeld ?_ ?_
         rotate_left
         ·rintro w' ⟨s0,s1,s2,s3,s4,s5,s6⟩
          go_simp
          with_reducible rfl
         rotate_left
         ·simp only [Act.put,zX,zY,zZ,i64_w,i32_w]
          rfl
         refine pure_ (i:=8) (N:=some 52) (v:=?_) (a':=?_) #[true,true,true,true,true,true,true,true,true,false,false,false,false,true,false,false,false,false] rfl rfl (any_of HT_.out (by kernel_rfl)) (fun _ _ _ h=>h) (Or.inl ⟨by rfl,?_⟩) ?_ ?_
         rotate_left
         ·intro w'
          go_simp
          with_reducible rfl
         rotate_left
         ·simp only [Act.put,zX,zY,zZ,i64_w,i32_w]
          rfl
         refine pure_ (i:=9) (N:=some 53) (v:=?_) (a':=?_) #[true,true,true,true,true,true,true,true,true,true,false,false,false,true,false,false,false,false] rfl rfl (any_of HT_.out (by kernel_rfl)) (fun _ _ _ h=>h) (Or.inl ⟨by rfl,?_⟩) ?_ ?_
         rotate_left
         ·intro w'
          go_simp
          with_reducible rfl
         rotate_left
         ·simp only [Act.put,zX,zY,zZ,i64_w,i32_w]
          rfl
         refine take_ (i:=10) (N:=some 54) (v:=?_) (a':=?_) #[true,true,true,true,true,true,true,true,true,true,true,false,false,true,false,false,false,false] rfl rfl (take_ofW HT_.out HW_.out (by kernel_rfl)) (fun _ _ _ h=>h) (Or.inl ⟨by rfl,?_⟩) hHeld ?_ ?_
         rotate_left
         ·rintro w' ⟨s0,s1,s2,s3,s4,s5,s6⟩
          go_simp
          with_reducible rfl
         rotate_left
         ·simp only [Act.put,zX,zY,zZ,i64_w,i32_w]
          rfl
         refine pure_ (i:=11) (N:=some 55) (v:=?_) (a':=?_) #[true,true,true,true,true,true,true,true,true,true,true,true,false,true,false,false,false,false] rfl rfl (any_of HT_.out (by kernel_rfl)) (fun _ _ _ h=>h) (Or.inl ⟨by rfl,?_⟩) ?_ ?_
         rotate_left
         ·intro w'
          go_simp
          with_reducible rfl
         rotate_left
         ·simp only [Act.put,zX,zY,zZ,i64_w,i32_w]
          rfl
         refine take_ (i:=12) (N:=some 56) (v:=?_) (a':=?_) #[true,true,true,true,true,true,true,true,true,true,true,true,true,true,false,false,false,false] rfl rfl (take_ofW HT_.out HW_.out (by kernel_rfl)) (fun _ _ _ h=>h) (Or.inl ⟨by rfl,?_⟩) hHeld ?_ ?_
         rotate_left
         ·rintro w' ⟨s0,s1,s2,s3,s4,s5,s6⟩
          go_simp
          with_reducible rfl
         rotate_left
         ·simp only [Act.put,zX,zY,zZ,i64_w,i32_w]
          rfl
         refine one_ (i:=14) (N:=some 58) #[true,true,true,true,true,true,true,true,true,true,true,true,true,true,true,false,false,false] rfl rfl (one_of HT_.out (by kernel_rfl)) (by decide) (fun K hK=>?_)
         refine goes_ Tryd.func53 (by kernel_rfl) rfl #[.agg #[.slice (some ad327) l0_0.length c0_0,.slice A0_1 l0_1.length c0_1],.int .i64 x8_1] (by rfl) rfl rfl (by (try simp only [zx,zy,zz]);first|done|rfl|(simp only [zd,zt];rfl)) ?_
         with_reducible refine (foretellref_behindVar.calls k1 _ _ l0_0 _ _ l0_1 x8_1 t332 _ ?side1 ?side2 ?side3 ?side4 A15.out).mono ?_
         (case side1=>repeat (first|exact (zT HR0_0.out HB.out)|(with_reducible refine Kd.C_alloc ?_ _)|(with_reducible refine Kd.C_drewN ?_ _)|(with_reducible refine Kd.C_drew ?_)))
         (case side2=>exact HC0_0.out)
         (case side3=>repeat (first|exact (zT HR0_1.out HB.out)|(with_reducible refine Kd.C_alloc ?_ _)|(with_reducible refine Kd.C_drewN ?_ _)|(with_reducible refine Kd.C_drew ?_)))
         (case side4=>exact HC0_1.out)
         rintro e w18 ⟨rfl,hb⟩
         refine ⟨_,rfl,?_⟩
         have n0_:=zA (zN (g:=gb324) (o:=.cells #[.slice (some ad327) l0_0.length c0_0,.slice A0_1 l0_1.length c0_1] 25 (0,0)) (by (with_reducible repeat (first|refine zL ?_ _|refine zM ?_|refine zK ?_ _));exact BK324.out) hb)
         have n1_:=zA (zH (by repeat (first|(with_reducible first|exact HB.out|apply zD|apply zC|apply zE|refine zF ?_ GE324.out)|exact HB.out)) hb)
         clear BK324
         clear HB
         have BK324:=n0_
         have HB:=n1_
         clear n0_ n1_
         (try clear hb)
         (try clear hb2)
         (try clear hk)
         (try clear hi)
         refine hK.out _ _ ⟨(zI BK324.out 0).trans rfl,(zI BK324.out 1).trans rfl,((HB.out.cell (zB w _ hw330_0)).trans hw330_0),((HB.out.cell (zB w _ hw331_0)).trans hw331_0),((HB.out.cell (zB w _ hw331_1)).trans hw331_1),((HB.out.cell (zB w _ hw331_2)).trans hw331_2),((HB.out.cell (zB w _ hw331_3)).trans hw331_3)⟩ (fun hHeld=>?_)
         clear hK K
         refine norm_ (a':=?_) ?_ ?_
         rotate_left
         ·show Act.put _ (some 58) _ = _
          simp only [Act.put,zX,zY,zZ,i64_w,i32_w]
          rfl
         refine pure_ (i:=15) (N:=some 59) (v:=?_) (a':=?_) #[true,true,true,true,true,true,true,true,true,true,true,true,true,true,true,true,false,false] rfl rfl (any_of HT_.out (by kernel_rfl)) (fun _ _ _ h=>h) (Or.inl ⟨by rfl,?_⟩) ?_ ?_
         rotate_left
         ·intro w'
          go_simp
          with_reducible rfl
         rotate_left
         ·simp only [Act.put,zX,zY,zZ,i64_w,i32_w]
          rfl
         refine pure_ (i:=16) (N:=some 60) (v:=?_) (a':=?_) #[true,true,true,true,true,true,true,true,true,true,true,true,true,true,true,true,true,false] rfl rfl (any_of HT_.out (by kernel_rfl)) (fun _ _ _ h=>h) (Or.inl ⟨by rfl,?_⟩) ?_ ?_
         rotate_left
         ·intro w'
          go_simp
          with_reducible rfl
         rotate_left
         ·simp only [Act.put,zX,zY,zZ,i64_w,i32_w]
          rfl
         refine pure_ (i:=17) (N:=some 7) (v:=?_) (a':=?_) #[true,true,true,true,true,true,true,true,true,true,true,true,true,true,true,true,true,true] rfl rfl (any_of HT_.out (by kernel_rfl)) (fun _ _ _ h=>h) (Or.inl ⟨by rfl,?_⟩) ?_ ?_
         rotate_left
         ·intro w'
          go_simp
          with_reducible rfl
         rotate_left
         ·simp only [Act.put,zX,zY,zZ,i64_w,i32_w]
          rfl
         refine done_ (done_of HT_.out (by kernel_rfl)) ?_
         try go_wp2
         go_roundg k1
         case measure=>have:=HK1.out;omega
         case rel=>exact ⟨(wrap64 (x7_1 + (wrap64 ((wrap64 ((rd l1 x8_1) - ((rd_T74 l0_0 x8_1).f1))) * t332)))),(wrap64 (x8_1 + 1)),(by first|rfl|(simp;done)|(simp [*];done)),(by first|rfl|(simp;done)|(simp [*];done)),H',⟨by have:=HK1.out;omega⟩,⟨by (with_reducible repeat (first|refine zL ?_ _|refine zM ?_|refine zK ?_ _));exact BK324.out⟩,⟨by repeat (first|(with_reducible first|exact HB.out|apply zD|apply zC|apply zE|refine zF ?_ GE324.out)|exact HB.out)⟩⟩
        ·replace c14:=Bool.eq_false_iff.mpr c14
         subst c14
         have H1:(some (0,9)) = some (r1,r2):=by rw [if_neg (show ¬ (false = true) by decide)] at H;exact H
         clear H
         have H:=H1
         clear H1
         simp only [Option.some.injEq,Prod.mk.injEq] at H
         obtain ⟨rfl,rfl⟩:=H
         try go_wp2
         have n0_:=zA (zM BK324.out)
         have n1_:=zA (zE HB.out)
         clear BK324
         clear HB
         have BK324:=n0_
         have HB:=n1_
         clear n0_ n1_
         have p326:0 ≤ (x8_1:Int):=zP (by assumption)
         have q326:x8_1 < (l1.length:Int):=zP (by assumption)
         obtain ⟨ad326,e326,hx326_0⟩:=Kd.at_int HR1.out x8_1 p326 q326
         have hw326_0:=hx326_0
         cases e326
         replace hx326_0:=(HB.out.cell (zB w _ hx326_0)).trans hx326_0
         replace p326:=eq_true p326
         replace q326:=eq_true q326
         have p327:0 ≤ (x8_1:Int):=zP (by assumption)
         have q327:x8_1 < (l0_0.length:Int):=zP (by assumption)
         obtain ⟨ad327,e327,hx327_0,hx327_1,hx327_2,hx327_3⟩:=at_T74 HR0_0.out x8_1 p327 q327
         have hw327_3:=hx327_3
         have hw327_2:=hx327_2
         have hw327_1:=hx327_1
         have hw327_0:=hx327_0
         cases e327
         replace hx327_0:=(HB.out.cell (zB w _ hx327_0)).trans hx327_0
         replace hx327_1:=(HB.out.cell (zB w _ hx327_1)).trans hx327_1
         replace hx327_2:=(HB.out.cell (zB w _ hx327_2)).trans hx327_2
         replace hx327_3:=(HB.out.cell (zB w _ hx327_3)).trans hx327_3
         replace p327:=eq_true p327
         replace q327:=eq_true q327
         have p328:0 ≤ (x8_1:Int):=zP (by assumption)
         have q328:x8_1 < (l0_0.length:Int):=zP (by assumption)
         obtain ⟨ad328,e328,hx328_0,hx328_1,hx328_2,hx328_3⟩:=at_T74 HR0_0.out x8_1 p328 q328
         have hw328_3:=hx328_3
         have hw328_2:=hx328_2
         have hw328_1:=hx328_1
         have hw328_0:=hx328_0
         obtain rfl:ad327 = ad328:=(by injection e328)
         replace hx328_0:=(HB.out.cell (zB w _ hx328_0)).trans hx328_0
         replace hx328_1:=(HB.out.cell (zB w _ hx328_1)).trans hx328_1
         replace hx328_2:=(HB.out.cell (zB w _ hx328_2)).trans hx328_2
         replace hx328_3:=(HB.out.cell (zB w _ hx328_3)).trans hx328_3
         replace p328:=eq_true p328
         replace q328:=eq_true q328
         refine start_ (n:=18) (S:=fun w'=>w'.cell? ⟨gb324,0,none⟩ = some (.slice (some ad327) l0_0.length c0_0)∧w'.cell? ⟨gb324,1,none⟩ = some (.slice A0_1 l0_1.length c0_1)∧w'.cell? (ad326.add (x8_1).toNat) = some (.int .i64 (rd l1 x8_1))∧w'.cell? (ad327.add ((x8_1).toNat * 4)) = some (.string ((rd_T74 l0_0 x8_1).f0))∧w'.cell? ⟨(ad327.add ((x8_1).toNat * 4)).block,(ad327.add ((x8_1).toNat * 4)).off + 1,none⟩ = some (.int .i64 ((rd_T74 l0_0 x8_1).f1))∧w'.cell? ⟨(ad327.add ((x8_1).toNat * 4)).block,(ad327.add ((x8_1).toNat * 4)).off + 2,none⟩ = some (.int .i64 ((rd_T74 l0_0 x8_1).f2))∧w'.cell? ⟨(ad327.add ((x8_1).toNat * 4)).block,(ad327.add ((x8_1).toNat * 4)).off + 3,none⟩ = some (.int .i64 ((rd_T74 l0_0 x8_1).f3))∧w'.cell? (ad327.add ((x8_1).toNat * 4)) = some (.string ((rd_T74 l0_0 x8_1).f0))∧w'.cell? ⟨(ad327.add ((x8_1).toNat * 4)).block,(ad327.add ((x8_1).toNat * 4)).off + 1,none⟩ = some (.int .i64 ((rd_T74 l0_0 x8_1).f1))∧w'.cell? ⟨(ad327.add ((x8_1).toNat * 4)).block,(ad327.add ((x8_1).toNat * 4)).off + 2,none⟩ = some (.int .i64 ((rd_T74 l0_0 x8_1).f2))∧w'.cell? ⟨(ad327.add ((x8_1).toNat * 4)).block,(ad327.add ((x8_1).toNat * 4)).off + 3,none⟩ = some (.int .i64 ((rd_T74 l0_0 x8_1).f3))) (ds:=[]) #[false,false,false,false,false,false,false,false,false,false,false,false,false,false,false,false,false,false] (by kernel_rfl) rfl rfl ⟨(zI BK324.out 0).trans rfl,(zI BK324.out 1).trans rfl,((HB.out.cell (zB w _ hw326_0)).trans hw326_0),((HB.out.cell (zB w _ hw327_0)).trans hw327_0),((HB.out.cell (zB w _ hw327_1)).trans hw327_1),((HB.out.cell (zB w _ hw327_2)).trans hw327_2),((HB.out.cell (zB w _ hw327_3)).trans hw327_3),((HB.out.cell (zB w _ hw328_0)).trans hw328_0),((HB.out.cell (zB w _ hw328_1)).trans hw328_1),((HB.out.cell (zB w _ hw328_2)).trans hw328_2),((HB.out.cell (zB w _ hw328_3)).trans hw328_3)⟩ (fun hHeld=>?_);refine with_tabW foretellref_CodeOf.tab10 foretellref_CodeOf.bits10 (fun HT_ HW_=>?_)
         generalize wr.drew = w19 at BK324 HB hx326_0 hx327_0 hx327_1 hx327_2 hx327_3 hx328_0 hx328_1 hx328_2 hx328_3 hHeld ⊢
         refine pure_ (i:=0) (N:=some 26) (v:=?_) (a':=?_) #[true,false,false,false,false,false,false,false,false,false,false,false,false,false,false,false,false,false] rfl rfl (any_of HT_.out (by kernel_rfl)) (fun _ _ _ h=>h) (Or.inl ⟨by rfl,?_⟩) ?_ ?_
         rotate_left
         ·intro w'
          go_simp
          with_reducible rfl
         rotate_left
         ·simp only [Act.put,zX,zY,zZ,i64_w,i32_w]
          rfl
         refine pure_ (i:=1) (N:=some 27) (v:=?_) (a':=?_) #[true,true,false,false,false,false,false,false,false,false,false,false,false,false,false,false,false,false] rfl rfl (any_of HT_.out (by kernel_rfl)) (fun _ _ _ h=>h) (Or.inl ⟨by rfl,?_⟩) ?_ ?_
         rotate_left
         ·intro w'
          go_simp
          with_reducible rfl
         rotate_left
         ·simp only [Act.put,zX,zY,zZ,i64_w,i32_w]
          rfl
         refine pure_ (i:=2) (N:=some 28) (v:=?_) (a':=?_) #[true,true,true,false,false,false,false,false,false,false,false,false,false,false,false,false,false,false] rfl rfl (any_of HT_.out (by kernel_rfl)) (fun _ _ _ h=>h) (Or.inl ⟨by rfl,?_⟩) ?_ ?_
         rotate_left
         ·intro w'
          go_simp
          with_reducible rfl
         rotate_left
         ·simp only [Act.put,zX,zY,zZ,i64_w,i32_w]
          rfl
         refine pure_ (i:=4) (N:=some 30) (v:=?_) (a':=?_) #[true,true,true,false,true,false,false,false,false,false,false,false,false,false,false,false,false,false] rfl rfl (any_of HT_.out (by kernel_rfl)) (fun _ _ _ h=>h) (Or.inl ⟨by rfl,?_⟩) ?_ ?_
         rotate_left
         ·intro w'
          go_simp
          with_reducible rfl
         rotate_left
         ·simp only [Act.put,zX,zY,zZ,i64_w,i32_w]
          rfl
         refine pure_ (i:=6) (N:=some 32) (v:=?_) (a':=?_) #[true,true,true,false,true,false,true,false,false,false,false,false,false,false,false,false,false,false] rfl rfl (any_of HT_.out (by kernel_rfl)) (fun _ _ _ h=>h) (Or.inl ⟨by rfl,?_⟩) ?_ ?_
         rotate_left
         ·intro w'
          go_simp
          with_reducible rfl
         rotate_left
         ·simp only [Act.put,zX,zY,zZ,i64_w,i32_w]
          rfl
         refine pure_ (i:=10) (N:=some 36) (v:=?_) (a':=?_) #[true,true,true,false,true,false,true,false,false,false,true,false,false,false,false,false,false,false] rfl rfl (any_of HT_.out (by kernel_rfl)) (fun _ _ _ h=>h) (Or.inl ⟨by rfl,?_⟩) ?_ ?_
         rotate_left
         ·intro w'
          go_simp
          with_reducible rfl
         rotate_left
         ·simp only [Act.put,zX,zY,zZ,i64_w,i32_w]
          rfl
         refine pure_ (i:=12) (N:=some 38) (v:=?_) (a':=?_) #[true,true,true,false,true,false,true,false,false,false,true,false,true,false,false,false,false,false] rfl rfl (any_of HT_.out (by kernel_rfl)) (fun _ _ _ h=>h) (Or.inl ⟨by rfl,?_⟩) ?_ ?_
         rotate_left
         ·intro w'
          go_simp
          with_reducible rfl
         rotate_left
         ·simp only [Act.put,zX,zY,zZ,i64_w,i32_w]
          rfl
         refine take_ (i:=3) (N:=some 29) (v:=?_) (a':=?_) #[true,true,true,true,true,false,true,false,false,false,true,false,true,false,false,false,false,false] rfl rfl (take_ofW HT_.out HW_.out (by kernel_rfl)) (fun _ _ _ h=>h) (Or.inl ⟨by rfl,?_⟩) hHeld ?_ ?_
         rotate_left
         ·rintro w' ⟨s0,s1,s2,s3,s4,s5,s6,s7,s8,s9,s10⟩
          go_simp
          with_reducible rfl
         rotate_left
         ·simp only [Act.put,zX,zY,zZ,i64_w,i32_w]
          rfl
         refine take_ (i:=5) (N:=some 31) (v:=?_) (a':=?_) #[true,true,true,true,true,true,true,false,false,false,true,false,true,false,false,false,false,false] rfl rfl (take_ofW HT_.out HW_.out (by kernel_rfl)) (fun _ _ _ h=>h) (Or.inl ⟨by rfl,?_⟩) hHeld ?_ ?_
         rotate_left
         ·rintro w' ⟨s0,s1,s2,s3,s4,s5,s6,s7,s8,s9,s10⟩
          go_simp
          with_reducible rfl
         rotate_left
         ·simp only [Act.put,zX,zY,zZ,i64_w,i32_w]
          rfl
         refine pure_ (i:=7) (N:=some 33) (v:=?_) (a':=?_) #[true,true,true,true,true,true,true,true,false,false,true,false,true,false,false,false,false,false] rfl rfl (any_of HT_.out (by kernel_rfl)) (fun _ _ _ h=>h) (Or.inl ⟨by rfl,?_⟩) ?_ ?_
         rotate_left
         ·intro w'
          go_simp
          with_reducible rfl
         rotate_left
         ·simp only [Act.put,zX,zY,zZ,i64_w,i32_w]
          rfl
         refine pure_ (i:=8) (N:=some 34) (v:=?_) (a':=?_) #[true,true,true,true,true,true,true,true,true,false,true,false,true,false,false,false,false,false] rfl rfl (any_of HT_.out (by kernel_rfl)) (fun _ _ _ h=>h) (Or.inl ⟨by rfl,?_⟩) ?_ ?_
         rotate_left
         ·intro w'
          go_simp
          with_reducible rfl
         rotate_left
         ·simp only [Act.put,zX,zY,zZ,i64_w,i32_w]
          rfl
         refine take_ (i:=9) (N:=some 35) (v:=?_) (a':=?_) #[true,true,true,true,true,true,true,true,true,true,true,false,true,false,false,false,false,false] rfl rfl (take_ofW HT_.out HW_.out (by kernel_rfl)) (fun _ _ _ h=>h) (Or.inl ⟨by rfl,?_⟩) hHeld ?_ ?_
         rotate_left
         ·rintro w' ⟨s0,s1,s2,s3,s4,s5,s6,s7,s8,s9,s10⟩
          go_simp
          with_reducible rfl
         rotate_left
         ·simp only [Act.put,zX,zY,zZ,i64_w,i32_w]
          rfl
         refine take_ (i:=11) (N:=some 37) (v:=?_) (a':=?_) #[true,true,true,true,true,true,true,true,true,true,true,true,true,false,false,false,false,false] rfl rfl (take_ofW HT_.out HW_.out (by kernel_rfl)) (fun _ _ _ h=>h) (Or.inl ⟨by rfl,?_⟩) hHeld ?_ ?_
         rotate_left
         ·rintro w' ⟨s0,s1,s2,s3,s4,s5,s6,s7,s8,s9,s10⟩
          go_simp
          with_reducible rfl
         rotate_left
         ·simp only [Act.put,zX,zY,zZ,i64_w,i32_w]
          rfl
         refine pure_ (i:=13) (N:=some 39) (v:=?_) (a':=?_) #[true,true,true,true,true,true,true,true,true,true,true,true,true,true,false,false,false,false] rfl rfl (any_of HT_.out (by kernel_rfl)) (fun _ _ _ h=>h) (Or.inl ⟨by rfl,?_⟩) ?_ ?_
         rotate_left
         ·intro w'
          go_simp
          with_reducible rfl
         rotate_left
         ·simp only [Act.put,zX,zY,zZ,i64_w,i32_w]
          rfl
         refine pure_ (i:=14) (N:=some 40) (v:=?_) (a':=?_) #[true,true,true,true,true,true,true,true,true,true,true,true,true,true,true,false,false,false] rfl rfl (any_of HT_.out (by kernel_rfl)) (fun _ _ _ h=>h) (Or.inl ⟨by rfl,?_⟩) ?_ ?_
         rotate_left
         ·intro w'
          go_simp
          with_reducible rfl
         rotate_left
         ·simp only [Act.put,zX,zY,zZ,i64_w,i32_w]
          rfl
         refine take_ (i:=15) (N:=some 41) (v:=?_) (a':=?_) #[true,true,true,true,true,true,true,true,true,true,true,true,true,true,true,true,false,false] rfl rfl (take_ofW HT_.out HW_.out (by kernel_rfl)) (fun _ _ _ h=>h) (Or.inl ⟨by rfl,?_⟩) hHeld ?_ ?_
         rotate_left
         ·rintro w' ⟨s0,s1,s2,s3,s4,s5,s6,s7,s8,s9,s10⟩
          go_simp
          with_reducible rfl
         rotate_left
         ·simp only [Act.put,zX,zY,zZ,i64_w,i32_w]
          rfl
         refine one_ (i:=16) (N:=some 42) #[true,true,true,true,true,true,true,true,true,true,true,true,true,true,true,true,true,false] rfl rfl (one_of HT_.out (by kernel_rfl)) (by decide) (fun K hK=>?_)
         refine goes_ Tryd.func56 (by kernel_rfl) rfl #[.int .i64 (rd l1 x8_1),.int .i64 ((rd_T74 l0_0 x8_1).f1),.int .i64 ((rd_T74 l0_0 x8_1).f2)] (by rfl) rfl rfl (by (try simp only [zx,zy,zz]);first|done|rfl|(simp only [zd,zt];rfl)) ?_
         with_reducible refine (foretellref_In.calls (rd l1 x8_1) ((rd_T74 l0_0 x8_1).f1) ((rd_T74 l0_0 x8_1).f2) false _ A13.out).mono ?_
         rintro e w' ⟨rfl,⟨nd,rfl⟩⟩
         refine ⟨_,rfl,?_⟩
         refine hK.out _ _ ⟨(zI BK324.out 0).trans rfl,(zI BK324.out 1).trans rfl,((HB.out.cell (zB w _ hw326_0)).trans hw326_0),((HB.out.cell (zB w _ hw327_0)).trans hw327_0),((HB.out.cell (zB w _ hw327_1)).trans hw327_1),((HB.out.cell (zB w _ hw327_2)).trans hw327_2),((HB.out.cell (zB w _ hw327_3)).trans hw327_3),((HB.out.cell (zB w _ hw328_0)).trans hw328_0),((HB.out.cell (zB w _ hw328_1)).trans hw328_1),((HB.out.cell (zB w _ hw328_2)).trans hw328_2),((HB.out.cell (zB w _ hw328_3)).trans hw328_3)⟩ (fun hHeld=>?_)
         clear hK K
         refine norm_ (a':=?_) ?_ ?_
         rotate_left
         ·show Act.put _ (some 42) _ = _
          simp only [Act.put,zX,zY,zZ,i64_w,i32_w]
          rfl
         refine pure_ (i:=17) (N:=some 43) (v:=?_) (a':=?_) #[true,true,true,true,true,true,true,true,true,true,true,true,true,true,true,true,true,true] rfl rfl (any_of HT_.out (by kernel_rfl)) (fun _ _ _ h=>h) (Or.inl ⟨by rfl,?_⟩) ?_ ?_
         rotate_left
         ·intro w'
          go_simp
          with_reducible rfl
         rotate_left
         ·simp only [Act.put,zX,zY,zZ,i64_w,i32_w]
          rfl
         refine done_ (done_of HT_.out (by kernel_rfl)) ?_
         try go_wp2
         go_ret2
         exact ⟨by first|rfl|(simp [errW_none,errW_some] <;> rfl)|(simp [*,errW_none,errW_some] <;> rfl),by repeat (first|(with_reducible first|exact HB.out|apply zD|apply zC|apply zE|refine zF ?_ GE324.out)|exact HB.out)⟩
       ·rw [if_neg c12] at H
        exact absurd H (by simp)
      ·rw [if_neg c11] at H
       exact absurd H (by simp)
     ·rw [if_neg c10] at H
      have c10b0:decide (x8_1 < (l1.length:Int)) = false:=zR c10
      clear c10
      simp only [Option.some.injEq,Prod.mk.injEq] at H
      obtain ⟨rfl,rfl⟩:=H
      go_wp2
      go_ret2
      exact ⟨by first|rfl|(simp [errW_none,errW_some] <;> rfl)|(simp [*,errW_none,errW_some] <;> rfl),by repeat (first|(with_reducible first|exact HB.out|apply zD|apply zC|apply zE|refine zF ?_ GE324.out)|exact HB.out)⟩
  ·rw [if_neg c5] at H
   have c5b0:((l1.length:Int) == (l0_0.length:Int)) = false:=beq_eq_false_iff_ne.mpr c5
   have c5b1:((l1.length:Int) != (l0_0.length:Int)) = true:=bne_iff_ne.mpr c5
   have c5b2:(l1.length == l0_0.length) = false:=by first|simpa using c5|(simp at c5 ⊢;omega)
   simp only [Option.some.injEq,Prod.mk.injEq] at H
   obtain ⟨rfl,rfl⟩:=H
   go_enter Tryd.func26,Tryd.ntmps26
   go_wp2_with (first|((with_reducible refine zV (N:=2) rfl ?_);refine zW ?hg (N:=2) ?hd (cs:=#[.slice A0_0 l0_0.length c0_0,.slice A0_1 l0_1.length c0_1]) (t:=25) ?hr ?_;(case hd=>rfl);(case hg=>rfl);(case hr=>first|(go_simp;done)|(go_simp;rfl));intro gb324 hg w20 hbox hb;have n0_:=zA (zH (by repeat (first|(with_reducible first|exact HB.out|apply zD|apply zC|apply zE)|exact HB.out)) hb);have n1_:=zA (hbox);have n2_:=zA ((by rw [hg];exact (zG (by repeat (first|(with_reducible first|exact HB.out|apply zD|apply zC|apply zE)|exact HB.out))):w.heap.size ≤ gb324));have n3_:=zA ((by rw [hg];exact (zG (by repeat (first|(with_reducible first|exact HB.out|apply zD|apply zC|apply zE)|exact HB.out))):w.heap.size ≤ gb324));clear HB;have HB:=n0_;have BK324:=n1_;have GW324:=n2_;have GE324:=n3_;clear n0_ n1_ n2_ n3_;clear hb hbox hg;have hcz21_0:w20.cell? ⟨gb324,0,none⟩ = some (.slice A0_0 l0_0.length c0_0):=(zI BK324.out 0).trans rfl;have hcz21_1:w20.cell? ⟨gb324,1,none⟩ = some (.slice A0_1 l0_1.length c0_1):=(zI BK324.out 1).trans rfl;have hfz21_0:=zJ BK324.out 0;have hfz21_1:=zJ BK324.out 1)|((with_reducible refine zU (f:=17) rfl ?_);refine goesL_ (some 10) rfl rfl Tryd.func17 (by kernel_rfl) rfl #[.agg #[.slice A0_0 l0_0.length c0_0,.slice A0_1 l0_1.length c0_1]] rfl (by (try simp only [zx,zy,zz]);first|done|rfl|(simp only [zd,zt];rfl)) ?_;(with_reducible refine (foretellref_ModelFault.calls k _ _ l0_0 _ _ l0_1 t325 _ ?side1 ?side2 ?side3 ?side4 A3.out).mono ?_);(case side1=>repeat (first|exact (zT HR0_0.out HB.out)|(with_reducible refine Kd.C_alloc ?_ _)|(with_reducible refine Kd.C_drewN ?_ _)|(with_reducible refine Kd.C_drew ?_)));(case side2=>exact HC0_0.out);(case side3=>repeat (first|exact (zT HR0_1.out HB.out)|(with_reducible refine Kd.C_alloc ?_ _)|(with_reducible refine Kd.C_drewN ?_ _)|(with_reducible refine Kd.C_drew ?_)));(case side4=>exact HC0_1.out);rintro e w22 ⟨rfl,hb⟩;refine ⟨_,rfl,?_⟩;have n0_:=zA (zN (g:=gb324) (o:=.cells #[.slice A0_0 l0_0.length c0_0,.slice A0_1 l0_1.length c0_1] 25 (0,0)) (by (with_reducible repeat (first|refine zL ?_ _|refine zM ?_|refine zK ?_ _));exact BK324.out) hb);have n1_:=zA (zH (by repeat (first|(with_reducible first|exact HB.out|apply zD|apply zC|apply zE|refine zF ?_ GE324.out)|exact HB.out)) hb);clear BK324;clear HB;have BK324:=n0_;have HB:=n1_;clear n0_ n1_;(try clear hb);(try clear hb2);(try clear hk);(try clear hi);have hcz23_0:w22.cell? ⟨gb324,0,none⟩ = some (.slice A0_0 l0_0.length c0_0):=(zI BK324.out 0).trans rfl;have hcz23_1:w22.cell? ⟨gb324,1,none⟩ = some (.slice A0_1 l0_1.length c0_1):=(zI BK324.out 1).trans rfl;have hfz23_0:=zJ BK324.out 0;have hfz23_1:=zJ BK324.out 1))
   go_ret2
   exact ⟨by first|rfl|(simp [errW_none,errW_some] <;> rfl)|(simp [*,errW_none,errW_some] <;> rfl),by repeat (first|(with_reducible first|exact HB.out|apply zD|apply zC|apply zE|refine zF ?_ GE324.out)|exact HB.out)⟩
 ·rw [if_neg c4] at H
  have c4b0:(t325 == 0) = false:=beq_eq_false_iff_ne.mpr c4
  have c4b1:(t325 != 0) = true:=bne_iff_ne.mpr c4
  simp only [Option.some.injEq,Prod.mk.injEq] at H
  obtain ⟨rfl,rfl⟩:=H
  go_enter Tryd.func26,Tryd.ntmps26
  go_wp2_with (first|((with_reducible refine zV (N:=2) rfl ?_);refine zW ?hg (N:=2) ?hd (cs:=#[.slice A0_0 l0_0.length c0_0,.slice A0_1 l0_1.length c0_1]) (t:=25) ?hr ?_;(case hd=>rfl);(case hg=>rfl);(case hr=>first|(go_simp;done)|(go_simp;rfl));intro gb324 hg w24 hbox hb;have n0_:=zA (zH (by repeat (first|(with_reducible first|exact HB.out|apply zD|apply zC|apply zE)|exact HB.out)) hb);have n1_:=zA (hbox);have n2_:=zA ((by rw [hg];exact (zG (by repeat (first|(with_reducible first|exact HB.out|apply zD|apply zC|apply zE)|exact HB.out))):w.heap.size ≤ gb324));have n3_:=zA ((by rw [hg];exact (zG (by repeat (first|(with_reducible first|exact HB.out|apply zD|apply zC|apply zE)|exact HB.out))):w.heap.size ≤ gb324));clear HB;have HB:=n0_;have BK324:=n1_;have GW324:=n2_;have GE324:=n3_;clear n0_ n1_ n2_ n3_;clear hb hbox hg;have hcz25_0:w24.cell? ⟨gb324,0,none⟩ = some (.slice A0_0 l0_0.length c0_0):=(zI BK324.out 0).trans rfl;have hcz25_1:w24.cell? ⟨gb324,1,none⟩ = some (.slice A0_1 l0_1.length c0_1):=(zI BK324.out 1).trans rfl;have hfz25_0:=zJ BK324.out 0;have hfz25_1:=zJ BK324.out 1)|((with_reducible refine zU (f:=17) rfl ?_);refine goesL_ (some 10) rfl rfl Tryd.func17 (by kernel_rfl) rfl #[.agg #[.slice A0_0 l0_0.length c0_0,.slice A0_1 l0_1.length c0_1]] rfl (by (try simp only [zx,zy,zz]);first|done|rfl|(simp only [zd,zt];rfl)) ?_;(with_reducible refine (foretellref_ModelFault.calls k _ _ l0_0 _ _ l0_1 t325 _ ?side1 ?side2 ?side3 ?side4 A3.out).mono ?_);(case side1=>repeat (first|exact (zT HR0_0.out HB.out)|(with_reducible refine Kd.C_alloc ?_ _)|(with_reducible refine Kd.C_drewN ?_ _)|(with_reducible refine Kd.C_drew ?_)));(case side2=>exact HC0_0.out);(case side3=>repeat (first|exact (zT HR0_1.out HB.out)|(with_reducible refine Kd.C_alloc ?_ _)|(with_reducible refine Kd.C_drewN ?_ _)|(with_reducible refine Kd.C_drew ?_)));(case side4=>exact HC0_1.out);rintro e w26 ⟨rfl,hb⟩;refine ⟨_,rfl,?_⟩;have n0_:=zA (zN (g:=gb324) (o:=.cells #[.slice A0_0 l0_0.length c0_0,.slice A0_1 l0_1.length c0_1] 25 (0,0)) (by (with_reducible repeat (first|refine zL ?_ _|refine zM ?_|refine zK ?_ _));exact BK324.out) hb);have n1_:=zA (zH (by repeat (first|(with_reducible first|exact HB.out|apply zD|apply zC|apply zE|refine zF ?_ GE324.out)|exact HB.out)) hb);clear BK324;clear HB;have BK324:=n0_;have HB:=n1_;clear n0_ n1_;(try clear hb);(try clear hb2);(try clear hk);(try clear hi)))
  go_ret2
  exact ⟨by first|rfl|(simp [errW_none,errW_some] <;> rfl)|(simp [*,errW_none,errW_some] <;> rfl),by repeat (first|(with_reducible first|exact HB.out|apply zD|apply zC|apply zE|refine zF ?_ GE324.out)|exact HB.out)⟩
 
end Go.Proofs.YtkpddelnkjjflaaDoor.M
