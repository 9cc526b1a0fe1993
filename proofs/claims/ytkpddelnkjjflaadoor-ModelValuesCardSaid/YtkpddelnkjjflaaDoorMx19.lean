-- WRITTEN by this session's own program (wip/pp.py) over the translation. Not trusted: Lean checks it.
import Derived.Test.YtkpddelnkjjflaaDoorMx0
import Derived.Test.YtkpddelnkjjflaaDoorMx3
import Derived.Test.YtkpddelnkjjflaaDoorMx6
import Derived.Test.YtkpddelnkjjflaaDoorMx8
import Derived.Test.YtkpddelnkjjflaaDoorMx11
import Derived.Test.YtkpddelnkjjflaaDoorMx12
namespace Go.Proofs.YtkpddelnkjjflaaDoor.M
open Go.Proofs.YtkpddelnkjjflaaDoor.Al
open Go.World renaming block_lt_of_cell? → zB
open Nat renaming lt_of_lt_of_le → zS
open Go.Proofs.YtkpddelnkjjflaaDoorW.PrintWords renaming pw_below_drewN → zC, below_alloc → zD, below_drew1 → zE, below_set → zF, below_size → zG, below_step → zH, blk_cell → zI, blk_frozen → zJ, blk_alloc → zK, blk_drewN → zL, blk_drew → zM, blk_below → zN, blk_put → zO, Kd.C_below → zT, gate_callee → zU, gate_dst → zV, box_event → zW
open Go.RowKit Go.Proofs.YtkpddelnkjjflaaDoorW.PrintWords Go.Proofs.YtkpddelnkjjflaaDoorW.PrintLast Go.Proofs.YtkpddelnkjjflaaDoorW.PrintMore
attribute [local go_sem] max2_int min2_int max_two min_two max_three min_three max_four min_four   -- for this text's walks alone
set_option linter.unusedVariables false
set_option linter.unusedSimpArgs false

/-! ### model_Values: function 30 -/
mutual
def model_Values.j0:Nat → Int → Bool → List (S74) → List (S68) → Option (List Int × Int)
 | 0,_,_,_,_=>none
 | k + 1,x1,x26,x377000,x377001=>if x26 = true then (some (([]:List Int),9)) else (if 0 ≤ (x377000.length:Int) then (if ((x377000.length:Int):Int).toNat ≤ 35184372088832 then (model_Values.l0 k x1 (List.replicate ((x377000.length:Int):Int).toNat 0) (wrap64 ((x377000.length:Int) - 1)) x377000 x377001) else (none)) else (none))
def model_Values.l0:Nat → Int → List Int → Int → List (S74) → List (S68) → Option (List Int × Int)
 | 0,_,_,_,_,_=>none
 | k + 1,x1,x8,x9,x377000,x377001=>if x9 ≥ 0 then (if 0 ≤ x9 then (if x9 < (x377000.length:Int) then (if (wrap64 ((wrap64 (((rd_T74 x377000 x9).f2) - ((rd_T74 x377000 x9).f1))) + 1)) = 0 then (none) else (if x9 < (x8.length:Int) then (model_Values.l0 k (wrap64 (Int.tdiv x1 (wrap64 ((wrap64 (((rd_T74 x377000 x9).f2) - ((rd_T74 x377000 x9).f1))) + 1)))) (x8.set (x9:Int).toNat (wrap64 (((rd_T74 x377000 x9).f1) + (Int.tmod x1 (wrap64 ((wrap64 (((rd_T74 x377000 x9).f2) - ((rd_T74 x377000 x9).f1))) + 1)))))) (wrap64 (x9 - 1)) x377000 x377001) else (none))) else (none)) else (none)) else (some (x8,0))
end
def model_Values.f (k:Nat) (l0_0:List (S74)) (l0_1:List (S68)) (a1:Int):Option (List Int × Int):=(model_Count.f k l0_0 l0_1).bind fun bt377=>(if bt377.2 = 0 then (if a1 < 0 then (model_Values.j0 k a1 true l0_0 l0_1) else (model_Values.j0 k a1 (decide (a1 ≥ bt377.1)) l0_0 l0_1)) else (some (([]:List Int),bt377.2)))
theorem model_Values.mono_l:∀ k,(∀ y0 y1 y2 y3,LeO (model_Values.j0 k y0 y1 y2 y3) (model_Values.j0 (k + 1) y0 y1 y2 y3))∧(∀ y0 y1 y2 y3 y4,LeO (model_Values.l0 k y0 y1 y2 y3 y4) (model_Values.l0 (k + 1) y0 y1 y2 y3 y4))
 | 0=>⟨fun _ _ _ _ r h=>by simp [model_Values.j0] at h,fun _ _ _ _ _ r h=>by simp [model_Values.l0] at h⟩
 | k + 1=>by
  obtain ⟨ih0,ih1⟩:=model_Values.mono_l k
  refine ⟨?_,?_⟩
  ·intro y0 y1 y2 y3
   unfold model_Values.j0
   repeat' first
   | (with_reducible exact ih0 _ _ _ _)
   | (with_reducible exact ih1 _ _ _ _ _)
   | (with_reducible exact model_Count.mono _ _ _)
   | (with_reducible exact LeO.refl _)
   | (with_reducible exact LeO.none _)
   | (with_reducible refine LeO.ite ?_ ?_)
   | (with_reducible refine LeO.bind ?_ (fun _=>?_))
   | exact ih0 _ _ _ _
   | exact ih1 _ _ _ _ _
   | exact model_Count.mono _ _ _
   | exact LeO.none _
   | refine LeO.ite ?_ ?_
   | refine LeO.bind ?_ (fun _=>?_)
  ·intro y0 y1 y2 y3 y4
   unfold model_Values.l0
   repeat' first
   | (with_reducible exact ih0 _ _ _ _)
   | (with_reducible exact ih1 _ _ _ _ _)
   | (with_reducible exact model_Count.mono _ _ _)
   | (with_reducible exact LeO.refl _)
   | (with_reducible exact LeO.none _)
   | (with_reducible refine LeO.ite ?_ ?_)
   | (with_reducible refine LeO.bind ?_ (fun _=>?_))
   | exact ih0 _ _ _ _
   | exact ih1 _ _ _ _ _
   | exact model_Count.mono _ _ _
   | exact LeO.none _
   | refine LeO.ite ?_ ?_
   | refine LeO.bind ?_ (fun _=>?_)
theorem model_Values.mono:∀ a0 a1 a2 k,LeO (model_Values.f k a0 a1 a2) (model_Values.f (k + 1) a0 a1 a2):=by
 intro a0 a1 a2 k
 obtain ⟨ih0,ih1⟩:=model_Values.mono_l k
 unfold model_Values.f
 repeat' first
   | (with_reducible exact ih0 _ _ _ _)
   | (with_reducible exact ih1 _ _ _ _ _)
   | (with_reducible exact model_Count.mono _ _ _)
   | (with_reducible exact LeO.refl _)
   | (with_reducible exact LeO.none _)
   | (with_reducible refine LeO.ite ?_ ?_)
   | (with_reducible refine LeO.bind ?_ (fun _=>?_))
   | exact ih0 _ _ _ _
   | exact ih1 _ _ _ _ _
   | exact model_Count.mono _ _ _
   | exact LeO.none _
   | refine LeO.ite ?_ ?_
   | refine LeO.bind ?_ (fun _=>?_)
def model_Values.T12:Bool × List (List Nat × List Nat):=(true,[([],[]),([],[]),([],[]),([2],[2]),([],[]),([],[]),([4,5],[4,5]),([3,6],[3,6]),([0,1,0,1,2,3,4,5,6,7],[0,1]),([8,7,0,1,2,3,4,5,6,7],[7,8])])
def model_Values.B12:List Nat:=[0,0,0,4,0,0,48,124,255,511]
theorem model_Values.tab12:rtab .any (opsOf Tryd.f30 12) = model_Values.T12:=by kernel_rfl
theorem model_Values.bits12:waitsOk model_Values.T12.2 model_Values.B12 = true:=by kernel_rfl
set_option maxHeartbeats 8000000 in
set_option maxRecDepth 100000 in
theorem model_Values.calls (k:Nat) (A0_0:Option Addr) (c0_0:Nat) (l0_0:List (S74)) (A0_1:Option Addr) (c0_1:Nat) (l0_1:List (S68)) (a1:Int) (r1:List Int) (r2:Int) (w:World) (hr0_0:Kd.C k74 w A0_0 l0_0.length l0_0) (hc0_0:l0_0.length ≤ c0_0) (hr0_1:Kd.C k68 w A0_1 l0_1.length l0_1) (hc0_1:l0_1.length ≤ c0_1) (hL:LaidG w) (h:model_Values.f k l0_0 l0_1 a1 = some (r1,r2)) :
  Calls Tryd.prog 30 #[.agg #[.slice A0_0 l0_0.length c0_0,.slice A0_1 l0_1.length c0_1],.int .i64 a1] w fun e w'=>∃ v0_:Value,e = .returned (.tuple #[v0_,.int .i64 r2])∧Kd.R (Kd.int .i64) 3 w' w.heap.size (fun _=>True) v0_ r1∧Below w.heap.size w w':=by
 have HLd:=zA hL
 clear hL
 have hu25:=Tryd.underlying25
 have hu74:=Tryd.underlying74
 have HR0_0:=zA hr0_0
 have HC0_0:=zA hc0_0
 clear hr0_0 hc0_0
 have HR0_1:=zA hr0_1
 have HC0_1:=zA hc0_1
 clear hr0_1 hc0_1
 have HB:=zA (Below.refl w.heap.size w)
 have H:((model_Count.f k l0_0 l0_1).bind fun bt377=>(if bt377.2 = 0 then (if a1 < 0 then (model_Values.j0 k a1 true l0_0 l0_1) else (model_Values.j0 k a1 (decide (a1 ≥ bt377.1)) l0_0 l0_1)) else (some (([]:List Int),bt377.2)))) = some (r1,r2):=h
 clear h
 replace H:=Option.bind_eq_some_iff.mp H
 obtain ⟨⟨t377,t378⟩,A30,H⟩:=H
 replace H:(if t378 = 0 then (if a1 < 0 then (model_Values.j0 k a1 true l0_0 l0_1) else (model_Values.j0 k a1 (decide (a1 ≥ t377)) l0_0 l0_1)) else (some (([]:List Int),t378))) = some (r1,r2):=H
 have A3:=zA A30
 clear A30
 by_cases c4:t378 = 0
 ·rw [if_pos c4] at H
  have c4b0:(t378 == 0) = true:=beq_iff_eq.mpr c4
  have c4b1:(t378 != 0) = false:=bne_eq_false_iff_eq.mpr c4
  clear c4
  have HC5:=zA H
  clear H
  go_enter Tryd.func30,Tryd.ntmps30
  go_upto_region 4 with (first|((with_reducible refine zV (N:=2) rfl ?_);refine zW ?hg (N:=2) ?hd (cs:=#[.slice A0_0 l0_0.length c0_0,.slice A0_1 l0_1.length c0_1]) (t:=25) ?hr ?_;(case hd=>rfl);(case hg=>rfl);(case hr=>first|(go_simp;done)|(go_simp;rfl));intro gb376 hg w6 hbox hb;have n0_:=zA (zH (by repeat (first|(with_reducible first|exact HB.out|apply zD|apply zC|apply zE)|exact HB.out)) hb);have n1_:=zA (hbox);have n2_:=zA ((by rw [hg];exact (zG (by repeat (first|(with_reducible first|exact HB.out|apply zD|apply zC|apply zE)|exact HB.out))):w.heap.size ≤ gb376));have n3_:=zA ((by rw [hg];exact (zG (by repeat (first|(with_reducible first|exact HB.out|apply zD|apply zC|apply zE)|exact HB.out))):w.heap.size ≤ gb376));clear HB;have HB:=n0_;have BK376:=n1_;have GW376:=n2_;have GE376:=n3_;clear n0_ n1_ n2_ n3_;clear hb hbox hg;have hcz7_0:w6.cell? ⟨gb376,0,none⟩ = some (.slice A0_0 l0_0.length c0_0):=(zI BK376.out 0).trans rfl;have hcz7_1:w6.cell? ⟨gb376,1,none⟩ = some (.slice A0_1 l0_1.length c0_1):=(zI BK376.out 1).trans rfl;have hfz7_0:=zJ BK376.out 0;have hfz7_1:=zJ BK376.out 1)|((with_reducible refine zU (f:=19) rfl ?_);refine goesL_ (some 14) rfl rfl Tryd.func19 (by kernel_rfl) rfl #[.agg #[.slice A0_0 l0_0.length c0_0,.slice A0_1 l0_1.length c0_1]] rfl (by (try simp only [List.map_toArray,List.map_cons,List.map_nil]);first|done|rfl|(simp only [List.length_drop,List.length_take];rfl)) ?_;(with_reducible refine (model_Count.calls k _ _ l0_0 _ _ l0_1 t377 t378 _ ?side1 ?side2 ?side3 ?side4 ?side5 A3.out).mono ?_);(case side1=>repeat (first|exact (zT HR0_0.out HB.out)|(with_reducible refine Kd.C_alloc ?_ _)|(with_reducible refine Kd.C_drewN ?_ _)|(with_reducible refine Kd.C_drew ?_)));(case side2=>exact HC0_0.out);(case side3=>repeat (first|exact (zT HR0_1.out HB.out)|(with_reducible refine Kd.C_alloc ?_ _)|(with_reducible refine Kd.C_drewN ?_ _)|(with_reducible refine Kd.C_drew ?_)));(case side4=>exact HC0_1.out);(case side5=>first|exact LaidG.below HLd.out (by repeat (first|(with_reducible first|exact HB.out|apply zD|apply zC|apply zE|refine zF ?_ GE376.out)|exact HB.out))|(refine LaidG.below HLd.out ?_;repeat (with_reducible first|exact HB.out|exact Below.refl _ _|apply zD|apply zC|apply zE);done));rintro e w8 ⟨rfl,hb⟩;refine ⟨_,rfl,?_⟩;have n0_:=zA (zN (g:=gb376) (o:=.cells #[.slice A0_0 l0_0.length c0_0,.slice A0_1 l0_1.length c0_1] 25 (0,0)) (by (with_reducible repeat (first|refine zL ?_ _|refine zM ?_|refine zK ?_ _));exact BK376.out) hb);have n1_:=zA (zH (by repeat (first|(with_reducible first|exact HB.out|apply zD|apply zC|apply zE|refine zF ?_ GE376.out)|exact HB.out)) hb);clear BK376;clear HB;have BK376:=n0_;have HB:=n1_;clear n0_ n1_;(try clear hb);(try clear hb2);(try clear hk);(try clear hi)))
  (try simp only [Act.put,List.setIfInBounds_toArray,List.set_cons_zero,List.set_cons_succ])
  go_cut [26] (fun v26 wc=>∃ (kq:Nat) (x26_4:Bool),v26 = .bool x26_4∧Aside0 (model_Values.j0 kq a1 x26_4 l0_0 l0_1 = some (r1,r2))∧Aside0 (kq ≤ k)∧Aside0 (wc.heap[gb376]? = some (.cells #[(.slice A0_0 l0_0.length c0_0),(.slice A0_1 l0_1.length c0_1)] 25 (0,0)))∧Aside0 (Below w.heap.size w wc))
  case first =>
   have H:=HC5.out
   clear HC5
   by_cases c9:a1 < 0
   ·rw [if_pos c9] at H
    have c9b0:decide (a1 < 0) = true:=zQ c9
    clear c9
    (first|rw [c9b0]|(simp only [i64_w,i32_w];rw [c9b0])|skip)
    have H':=zA H
    clear H
    go_wp2
    go_meet
    case rel=>exact ⟨_,(true),(by first|rfl|(simp;done)|(simp [*];done)),H',⟨by first|omega|exact Nat.le_refl _⟩,⟨by (with_reducible repeat (first|refine zL ?_ _|refine zM ?_|refine zK ?_ _));exact BK376.out⟩,⟨by repeat (first|(with_reducible first|exact HB.out|apply zD|apply zC|apply zE|refine zF ?_ GE376.out)|exact HB.out)⟩⟩
   ·rw [if_neg c9] at H
    have c9b0:decide (a1 < 0) = false:=zR c9
    clear c9
    (first|rw [c9b0]|(simp only [i64_w,i32_w];rw [c9b0])|skip)
    have H':=zA H
    clear H
    go_wp2
    go_meet
    case rel=>exact ⟨_,(decide (a1 ≥ t377)),(by first|rfl|(simp;done)|(simp [*];done)),H',⟨by first|omega|exact Nat.le_refl _⟩,⟨by (with_reducible repeat (first|refine zL ?_ _|refine zM ?_|refine zK ?_ _));exact BK376.out⟩,⟨by repeat (first|(with_reducible first|exact HB.out|apply zD|apply zC|apply zE|refine zF ?_ GE376.out)|exact HB.out)⟩⟩
  case rest =>
   clear HC5
   try clear c1
   try clear p2
   try clear c3
   try clear c4
   try clear c4b0
   try clear c4b1
   try clear c9
   try clear c9b0
   try clear hcz7_0
   try clear hcz7_1
   try clear hfz7_0
   try clear hfz7_1
   obtain ⟨kq,x26_4,rfl,HA,HJ4,BK376,HB⟩:=hcut
   cases kq with
   | zero=>exact absurd HA.out (by simp [model_Values.j0])
   | succ kj4 =>
    have H:=HA.out
    clear HA
    simp only [model_Values.j0] at H
    by_cases c10:x26_4 = true
    ·subst c10
     have H1:(some (([]:List Int),9)) = some (r1,r2):=by rw [if_pos rfl] at H;exact H
     clear H
     have H:=H1
     clear H1
     simp only [Option.some.injEq,Prod.mk.injEq] at H
     obtain ⟨rfl,rfl⟩:=H
     go_wp2
     go_ret2
     exact ⟨_,by first|rfl|(simp [errW_none,errW_some] <;> rfl)|(simp [*,errW_none,errW_some] <;> rfl),by first|exact Kd.R_nil _ _ _ _ _|exact Kd.N_nil _ _ _ _ _|exact Kd.V_nil _ _ _ _ _|exact Kd.Q_nil _ _ _ _ _|exact Kd.S_nil _ _ _ _ _,by repeat (first|(with_reducible first|exact HB.out|apply zD|apply zC|apply zE|refine zF ?_ GE376.out)|exact HB.out)⟩
    ·replace c10:=Bool.eq_false_iff.mpr c10
     subst c10
     have H1:(if 0 ≤ (l0_0.length:Int) then (if ((l0_0.length:Int):Int).toNat ≤ 35184372088832 then (model_Values.l0 kj4 a1 (List.replicate ((l0_0.length:Int):Int).toNat 0) (wrap64 ((l0_0.length:Int) - 1)) l0_0 l0_1) else (none)) else (none)) = some (r1,r2):=by rw [if_neg (show ¬ (false = true) by decide)] at H;exact H
     clear H
     have H:=H1
     clear H1
     by_cases c11:0 ≤ (l0_0.length:Int)
     ·rw [if_pos c11] at H
      have c11b0:=eq_true c11
      have c11b1:decide (0 ≤ (l0_0.length:Int)) = true:=zQ c11
      clear c11
      by_cases c12:((l0_0.length:Int):Int).toNat ≤ 35184372088832
      ·rw [if_pos c12] at H
       have c12b0:=eq_true c12
       have c12b1:decide (((l0_0.length:Int):Int).toNat ≤ 35184372088832) = true:=zQ c12
       clear c12
       obtain ⟨y379,hy379⟩:∃ y_:List Int,y_ = (List.replicate ((l0_0.length:Int):Int).toNat 0):=⟨_,rfl⟩
       replace H:(model_Values.l0 kj4 a1 y379 (wrap64 ((l0_0.length:Int) - 1)) l0_0 l0_1) = some (r1,r2):=by first|(rw [hy379];with_reducible exact H)|(have H2_:=(Option.bind_some _ _).symm.trans H;rw [hy379];with_reducible exact H2_)|(have H2_:=(Option.bind_some _ _).symm.trans H;with_reducible exact H2_)|with_reducible exact H|(rw [hy379];exact H)|exact H
       have Ny379:=zA hy379
       clear hy379
       have H':=zA H
       clear H
       have hcz13_0:wc.cell? ⟨gb376,0,none⟩ = some (.slice A0_0 l0_0.length c0_0):=(zI BK376.out 0).trans rfl
       have hcz13_1:wc.cell? ⟨gb376,1,none⟩ = some (.slice A0_1 l0_1.length c0_1):=(zI BK376.out 1).trans rfl
       have hfz13_0:=zJ BK376.out 0
       have hfz13_1:=zJ BK376.out 1
       go_wp2_with (first|((with_reducible refine zV (N:=30) rfl ?_);refine Kd.R_make (Kd.int .i64) _ 3 rfl (N:=30) rfl 37 _ _ rfl (l0_0.length:Int) rfl rfl Tryd.underlying37 (.int .i64 0) 8 info3 rfl (by decide) (by omega) 0 (ok:=fun _=>True) (okp:=fun _=>True) rfl (fun _ hk=>hk) trivial (zP (by assumption)) (Nat.le_trans (Nat.mul_le_mul_right _ (zP (by assumption):(l0_0.length:Int).toNat ≤ 35184372088832)) (by omega)) (Below.refl _ _) (Nat.le_refl _) ?_;intro v380 w14 ho15 hb hg_ hnew_;clear hg_ hnew_;(first|rw [← Ny379.out] at ho15|(simp only [Int.reduceToNat] at ho15;rw [← Ny379.out] at ho15));have n0_:=zA (Kd.R_lower ho15 (zG (by repeat (first|(with_reducible first|exact HB.out|apply zD|apply zC|apply zE|refine zF ?_ GE376.out)|exact HB.out))));have n1_:=zA (zN (g:=gb376) (o:=.cells #[.slice A0_0 l0_0.length c0_0,.slice A0_1 l0_1.length c0_1] 25 (0,0)) (by (with_reducible repeat (first|refine zL ?_ _|refine zM ?_|refine zK ?_ _));exact BK376.out) hb);have n2_:=zA (zH (by repeat (first|(with_reducible first|exact HB.out|apply zD|apply zC|apply zE|refine zF ?_ GE376.out)|exact HB.out)) hb);clear BK376;clear HB;have HO381:=n0_;have BK376:=n1_;have HB:=n2_;clear n0_ n1_ n2_;clear hb ho15;have hcz16_0:w14.cell? ⟨gb376,0,none⟩ = some (.slice A0_0 l0_0.length c0_0):=(zI BK376.out 0).trans rfl;have hcz16_1:w14.cell? ⟨gb376,1,none⟩ = some (.slice A0_1 l0_1.length c0_1):=(zI BK376.out 1).trans rfl;have hfz16_0:=zJ BK376.out 0;have hfz16_1:=zJ BK376.out 1))
       go_loopg [1,9] kj4 (fun kq v1 v9 w'=>∃ (x1_2:Int) (x8_2:List Int) (x9_2:Int),v1 = .int .i64 x1_2∧v9 = .int .i64 x9_2∧Aside0 (model_Values.l0 kq x1_2 x8_2 x9_2 l0_0 l0_1 = some (r1,r2))∧Aside0 (kq ≤ kj4)∧Aside0 (Kd.R (Kd.int .i64) 3 w' w.heap.size (fun _=>True) v380 x8_2)∧Aside0 (w'.heap[gb376]? = some (.cells #[(.slice A0_0 l0_0.length c0_0),(.slice A0_1 l0_1.length c0_1)] 25 (0,0)))∧Aside0 (Below w.heap.size w w'))
       case atStart=>exact ⟨(a1),(y379),(wrap64 ((l0_0.length:Int) - 1)),(by first|rfl|(simp;done)|(simp [*];done)),(by first|rfl|(simp;done)|(simp [*];done)),H',⟨Nat.le_refl _⟩,⟨by (with_reducible repeat (first|apply Kd.R_alloc|apply Kd.R_drewN|apply Kd.R_drew));exact HO381.out⟩,⟨by (with_reducible repeat (first|refine zL ?_ _|refine zM ?_|refine zK ?_ _));exact BK376.out⟩,⟨by repeat (first|(with_reducible first|exact HB.out|apply zD|apply zC|apply zE|refine zF ?_ GE376.out)|exact HB.out)⟩⟩
       case round =>
        clear H'
        try clear c1
        try clear p2
        try clear c3
        try clear c4
        try clear c4b0
        try clear c4b1
        try clear p6
        try clear c9
        try clear c9b0
        try clear c10
        try clear c11
        try clear c11b0
        try clear c11b1
        try clear c12
        try clear c12b0
        try clear c12b1
        try clear hcz13_0
        try clear hcz13_1
        try clear hcz16_0
        try clear hcz16_1
        try clear hcz7_0
        try clear hcz7_1
        try clear hfz13_0
        try clear hfz13_1
        try clear hfz16_0
        try clear hfz16_1
        try clear hfz7_0
        try clear hfz7_1
        try clear p2
        obtain ⟨x1_2,x8_2,x9_2,rfl,rfl,HA,HK2,HO_8,BK376,HB⟩:=hrel
        cases gk with
        | zero=>exact absurd HA.out (by simp [model_Values.l0])
        | succ k2 =>
         have H:=HA.out
         clear HA
         simp only [model_Values.l0] at H
         by_cases c17:x9_2 ≥ 0
         ·rw [if_pos c17] at H
          have c17b0:decide (0 ≤ x9_2) = true:=zQ c17
          clear c17
          by_cases c18:0 ≤ x9_2
          ·rw [if_pos c18] at H
           have c18b0:decide (0 ≤ x9_2) = true:=zQ c18
           clear c18
           by_cases c19:x9_2 < (l0_0.length:Int)
           ·rw [if_pos c19] at H
            have c19b0:decide (x9_2 < (l0_0.length:Int)) = true:=zQ c19
            clear c19
            by_cases c20:(wrap64 ((wrap64 (((rd_T74 l0_0 x9_2).f2) - ((rd_T74 l0_0 x9_2).f1))) + 1)) = 0
            ·rw [if_pos c20] at H
             exact absurd H (by simp)
            ·rw [if_neg c20] at H
             have c20b0:((wrap64 ((wrap64 (((rd_T74 l0_0 x9_2).f2) - ((rd_T74 l0_0 x9_2).f1))) + 1)) == 0) = false:=beq_eq_false_iff_ne.mpr c20
             have c20b1:((wrap64 ((wrap64 (((rd_T74 l0_0 x9_2).f2) - ((rd_T74 l0_0 x9_2).f1))) + 1)) != 0) = true:=bne_iff_ne.mpr c20
             by_cases c21:x9_2 < (x8_2.length:Int)
             ·rw [if_pos c21] at H
              have c21b0:decide (x9_2 < (x8_2.length:Int)) = true:=zQ c21
              clear c21
              obtain ⟨y384,hy384⟩:∃ y_:List Int,y_ = (x8_2.set (x9_2:Int).toNat (wrap64 (((rd_T74 l0_0 x9_2).f1) + (Int.tmod x1_2 (wrap64 ((wrap64 (((rd_T74 l0_0 x9_2).f2) - ((rd_T74 l0_0 x9_2).f1))) + 1)))))):=⟨_,rfl⟩
              replace H:(model_Values.l0 k2 (wrap64 (Int.tdiv x1_2 (wrap64 ((wrap64 (((rd_T74 l0_0 x9_2).f2) - ((rd_T74 l0_0 x9_2).f1))) + 1)))) y384 (wrap64 (x9_2 - 1)) l0_0 l0_1) = some (r1,r2):=by first|(rw [hy384];with_reducible exact H)|(have H2_:=(Option.bind_some _ _).symm.trans H;rw [hy384];with_reducible exact H2_)|(have H2_:=(Option.bind_some _ _).symm.trans H;with_reducible exact H2_)|with_reducible exact H|(rw [hy384];exact H)|exact H
              have Ny384:=zA hy384
              clear hy384
              have H':=zA H
              clear H
              have hcz23_0:wr.cell? ⟨gb376,0,none⟩ = some (.slice A0_0 l0_0.length c0_0):=(zI BK376.out 0).trans rfl
              have hcz23_1:wr.cell? ⟨gb376,1,none⟩ = some (.slice A0_1 l0_1.length c0_1):=(zI BK376.out 1).trans rfl
              have hfz23_0:=zJ BK376.out 0
              have hfz23_1:=zJ BK376.out 1
              have p382:0 ≤ (x9_2:Int):=zP (by assumption)
              have q382:x9_2 < (l0_0.length:Int):=zP (by assumption)
              obtain ⟨ad382,e382,hx382_0,hx382_1,hx382_2,hx382_3⟩:=at_T74 HR0_0.out x9_2 p382 q382
              cases e382
              replace hx382_0:=(HB.out.cell (zB w _ hx382_0)).trans hx382_0
              replace hx382_1:=(HB.out.cell (zB w _ hx382_1)).trans hx382_1
              replace hx382_2:=(HB.out.cell (zB w _ hx382_2)).trans hx382_2
              replace hx382_3:=(HB.out.cell (zB w _ hx382_3)).trans hx382_3
              replace p382:=eq_true p382
              replace q382:=eq_true q382
              try go_wp2_with (first|((with_reducible refine zV (N:=10) rfl ?_);refine zW ?hg (N:=10) ?hd (cs:=#[.string (⟨#[]⟩:ByteArray),.int .i64 0,.int .i64 0,.int .i64 0]) (t:=74) ?hr ?_;(case hd=>rfl);(case hg=>rfl);(case hr=>first|(go_simp;done)|(go_simp;rfl));intro gb383 hg w24 hbox hb;have n0_:=zA (Kd.R_below (by (with_reducible repeat (first|apply Kd.R_alloc|apply Kd.R_drewN|apply Kd.R_drew));exact HO_8.out) hb);have n1_:=zA (zN (g:=gb376) (o:=.cells #[.slice (some ad382) l0_0.length c0_0,.slice A0_1 l0_1.length c0_1] 25 (0,0)) (by (with_reducible repeat (first|refine zL ?_ _|refine zM ?_|refine zK ?_ _));exact BK376.out) hb);have n2_:=zA (zH (by repeat (first|(with_reducible first|exact HB.out|apply zD|apply zC|apply zE|refine zF ?_ GE376.out)|exact HB.out)) hb);have n3_:=zA (hbox);have n4_:=zA ((by rw [hg];exact (zG (by repeat (first|(with_reducible first|exact HB.out|apply zD|apply zC|apply zE|refine zF ?_ GE376.out)|exact HB.out))):w.heap.size ≤ gb383));have n5_:=zA ((by rw [hg];exact (zG (by repeat (first|(with_reducible first|exact HB.out|apply zD|apply zC|apply zE|refine zF ?_ GE376.out)|exact HB.out))):w.heap.size ≤ gb383));have n6_:=zA ((by rw [hg];exact Nat.ne_of_lt (blk_lt (g:=gb376) (o:=.cells #[.slice (some ad382) l0_0.length c0_0,.slice A0_1 l0_1.length c0_1] 25 (0,0)) (by (with_reducible repeat (first|refine zL ?_ _|refine zM ?_|refine zK ?_ _));exact BK376.out)):gb376 ≠ gb383));have n7_:=zA ((by rw [hg];exact Nat.ne_of_gt (blk_lt (g:=gb376) (o:=.cells #[.slice (some ad382) l0_0.length c0_0,.slice A0_1 l0_1.length c0_1] 25 (0,0)) (by (with_reducible repeat (first|refine zL ?_ _|refine zM ?_|refine zK ?_ _));exact BK376.out)):gb383 ≠ gb376));clear HO_8;clear BK376;clear HB;have HO_8:=n0_;have BK376:=n1_;have HB:=n2_;have BK383:=n3_;have GW383:=n4_;have GE383:=n5_;have NB376_383:=n6_;have NB383_376:=n7_;clear n0_ n1_ n2_ n3_ n4_ n5_ n6_ n7_;clear hb hbox hg;have hnb25:=NB383_376.out;have hnc25:=NB376_383.out;have hcz26_0:w24.cell? ⟨gb383,0,none⟩ = some (.string (⟨#[]⟩:ByteArray)):=(zI BK383.out 0).trans rfl;have hcz26_1:w24.cell? ⟨gb383,1,none⟩ = some (.int .i64 0):=(zI BK383.out 1).trans rfl;have hcz26_2:w24.cell? ⟨gb383,2,none⟩ = some (.int .i64 0):=(zI BK383.out 2).trans rfl;have hcz26_3:w24.cell? ⟨gb383,3,none⟩ = some (.int .i64 0):=(zI BK383.out 3).trans rfl;have hfz26_0:=zJ BK383.out 0;have hfz26_1:=zJ BK383.out 1;have hfz26_2:=zJ BK383.out 2;have hfz26_3:=zJ BK383.out 3))
              have n0_:Aside0 (Kd.R (Kd.int .i64) 3 ((((w24.setCell ⟨gb383,0,none⟩ (.string ((rd_T74 l0_0 x9_2).f0))).setCell ⟨gb383,1,none⟩ (.int .i64 ((rd_T74 l0_0 x9_2).f1))).setCell ⟨gb383,2,none⟩ (.int .i64 ((rd_T74 l0_0 x9_2).f2))).setCell ⟨gb383,3,none⟩ (.int .i64 ((rd_T74 l0_0 x9_2).f3))) w.heap.size (fun _=>True) v380 x8_2):=⟨by (with_reducible repeat (first|apply Kd.R_alloc|apply Kd.R_drewN|apply Kd.R_drew));exact Kd.R_mono (Kd.R_far (p:=⟨gb383,3,none⟩) (Kd.R_far (p:=⟨gb383,2,none⟩) (Kd.R_far (p:=⟨gb383,1,none⟩) (Kd.R_far (p:=⟨gb383,0,none⟩) (Kd.R_types HO_8.out BK383.out (by decide)) (fun _ hk=>hk.2) (.string ((rd_T74 l0_0 x9_2).f0))) (fun _ hk=>hk.2) (.int .i64 ((rd_T74 l0_0 x9_2).f1))) (fun _ hk=>hk.2) (.int .i64 ((rd_T74 l0_0 x9_2).f2))) (fun _ hk=>hk.2) (.int .i64 ((rd_T74 l0_0 x9_2).f3))) (fun _ hk=>trivial)⟩
              have n1_:Aside0 (((((w24.setCell ⟨gb383,0,none⟩ (.string ((rd_T74 l0_0 x9_2).f0))).setCell ⟨gb383,1,none⟩ (.int .i64 ((rd_T74 l0_0 x9_2).f1))).setCell ⟨gb383,2,none⟩ (.int .i64 ((rd_T74 l0_0 x9_2).f2))).setCell ⟨gb383,3,none⟩ (.int .i64 ((rd_T74 l0_0 x9_2).f3))).heap[gb376]? = some (.cells #[.slice (some ad382) l0_0.length c0_0,.slice A0_1 l0_1.length c0_1] 25 (0,0))):=⟨by (with_reducible repeat (first|refine zL ?_ _|refine zM ?_|refine zK ?_ _));refine blk_far ?_ NB376_383.out _;(with_reducible repeat (first|refine zL ?_ _|refine zM ?_|refine zK ?_ _));refine blk_far ?_ NB376_383.out _;(with_reducible repeat (first|refine zL ?_ _|refine zM ?_|refine zK ?_ _));refine blk_far ?_ NB376_383.out _;(with_reducible repeat (first|refine zL ?_ _|refine zM ?_|refine zK ?_ _));refine blk_far ?_ NB376_383.out _;(with_reducible repeat (first|refine zL ?_ _|refine zM ?_|refine zK ?_ _));exact BK376.out⟩
              have n2_:Aside0 (((((w24.setCell ⟨gb383,0,none⟩ (.string ((rd_T74 l0_0 x9_2).f0))).setCell ⟨gb383,1,none⟩ (.int .i64 ((rd_T74 l0_0 x9_2).f1))).setCell ⟨gb383,2,none⟩ (.int .i64 ((rd_T74 l0_0 x9_2).f2))).setCell ⟨gb383,3,none⟩ (.int .i64 ((rd_T74 l0_0 x9_2).f3))).heap[gb383]? = some (.cells #[.string ((rd_T74 l0_0 x9_2).f0),.int .i64 ((rd_T74 l0_0 x9_2).f1),.int .i64 ((rd_T74 l0_0 x9_2).f2),.int .i64 ((rd_T74 l0_0 x9_2).f3)] 74 (0,0))):=⟨by (with_reducible repeat (first|refine zL ?_ _|refine zM ?_|refine zK ?_ _));refine zO (cs:=#[.string ((rd_T74 l0_0 x9_2).f0),.int .i64 ((rd_T74 l0_0 x9_2).f1),.int .i64 ((rd_T74 l0_0 x9_2).f2),.int .i64 0]) ?_ 3 _ rfl;(with_reducible repeat (first|refine zL ?_ _|refine zM ?_|refine zK ?_ _));refine zO (cs:=#[.string ((rd_T74 l0_0 x9_2).f0),.int .i64 ((rd_T74 l0_0 x9_2).f1),.int .i64 0,.int .i64 0]) ?_ 2 _ rfl;(with_reducible repeat (first|refine zL ?_ _|refine zM ?_|refine zK ?_ _));refine zO (cs:=#[.string ((rd_T74 l0_0 x9_2).f0),.int .i64 0,.int .i64 0,.int .i64 0]) ?_ 1 _ rfl;(with_reducible repeat (first|refine zL ?_ _|refine zM ?_|refine zK ?_ _));refine zO (cs:=#[.string (⟨#[]⟩:ByteArray),.int .i64 0,.int .i64 0,.int .i64 0]) ?_ 0 _ rfl;(with_reducible repeat (first|refine zL ?_ _|refine zM ?_|refine zK ?_ _));exact BK383.out⟩
              have n3_:Aside0 (Below w.heap.size w ((((w24.setCell ⟨gb383,0,none⟩ (.string ((rd_T74 l0_0 x9_2).f0))).setCell ⟨gb383,1,none⟩ (.int .i64 ((rd_T74 l0_0 x9_2).f1))).setCell ⟨gb383,2,none⟩ (.int .i64 ((rd_T74 l0_0 x9_2).f2))).setCell ⟨gb383,3,none⟩ (.int .i64 ((rd_T74 l0_0 x9_2).f3)))):=⟨by repeat (first|(with_reducible first|exact HB.out|apply zD|apply zC|apply zE|refine zF ?_ GE376.out|refine zF ?_ GE383.out)|exact HB.out)⟩
              (try clear HO_8)
              (try clear BK376)
              (try clear BK383)
              (try clear HB)
              generalize ((((w24.setCell ⟨gb383,0,none⟩ (.string ((rd_T74 l0_0 x9_2).f0))).setCell ⟨gb383,1,none⟩ (.int .i64 ((rd_T74 l0_0 x9_2).f1))).setCell ⟨gb383,2,none⟩ (.int .i64 ((rd_T74 l0_0 x9_2).f2))).setCell ⟨gb383,3,none⟩ (.int .i64 ((rd_T74 l0_0 x9_2).f3))) = w27 at n0_ n1_ n2_ n3_ ⊢
              have HO_8:=n0_
              have BK376:=n1_
              have BK383:=n2_
              have HB:=n3_
              clear n0_ n1_ n2_ n3_
              have n0_:=zA (Kd.R_drew HO_8.out)
              have n1_:=zA (zM BK376.out)
              have n2_:=zA (zM BK383.out)
              have n3_:=zA (zE HB.out)
              clear HO_8
              clear BK376
              clear BK383
              clear HB
              have HO_8:=n0_
              have BK376:=n1_
              have BK383:=n2_
              have HB:=n3_
              clear n0_ n1_ n2_ n3_
              have p22:0 ≤ (x9_2:Int):=zP (by assumption)
              have q22:(x9_2:Int) < ((x8_2.length:Int):Int):=zP (by assumption)
              obtain ⟨go22,co22,eo22,gb22,gl22,cl22,HG22⟩:=Kd.R_form HO_8.out (by omega)
              (first|cases eo22|(injection eo22 with ea_ en_ ec_;(first|subst ea_|(injection ea_ with ea_;subst ea_));subst ec_;clear en_))
              have GB22:=zA gb22
              have GG22:=zA HG22
              clear gb22 gl22 HG22
              obtain ⟨hx22_0,hf22_0⟩:=Kd.R_celln 0 HO_8.out (x9_2:Int) p22 q22
              replace p22:=eq_true p22
              replace q22:=eq_true q22
              have HP29:=Kd.R_putn HO_8.out (x9_2:Int) (wrap64 (((rd_T74 l0_0 x9_2).f1) + (Int.tmod x1_2 (wrap64 ((wrap64 (((rd_T74 l0_0 x9_2).f2) - ((rd_T74 l0_0 x9_2).f1))) + 1)))))
              rw [← Ny384.out] at HP29
              have HQ29:=zA HP29
              clear HP29
              refine start_ (n:=10) (S:=fun w'=>w'.cell? ⟨gb383,0,none⟩ = some (.string ((rd_T74 l0_0 x9_2).f0))∧w'.cell? ⟨gb383,1,none⟩ = some (.int .i64 ((rd_T74 l0_0 x9_2).f1))∧w'.cell? ⟨gb383,2,none⟩ = some (.int .i64 ((rd_T74 l0_0 x9_2).f2))∧w'.cell? ⟨gb383,3,none⟩ = some (.int .i64 ((rd_T74 l0_0 x9_2).f3))) (ds:=[9]) #[false,false,false,false,false,false,false,false,false,false] (by kernel_rfl) rfl rfl ⟨(zI BK383.out 0).trans rfl,(zI BK383.out 1).trans rfl,(zI BK383.out 2).trans rfl,(zI BK383.out 3).trans rfl⟩ (fun hHeld=>?_);refine with_tabW model_Values.tab12 model_Values.bits12 (fun HT_ HW_=>?_)
              generalize w27.drew = w28 at HO_8 BK376 BK383 HB GG22 HQ29 hf22_0 hx22_0 hHeld ⊢
              refine pure_ (i:=0) (N:=some 50) (v:=?_) (a':=?_) #[true,false,false,false,false,false,false,false,false,false] rfl rfl (any_of HT_.out (by kernel_rfl)) (fun _ _ _ h=>h) (Or.inl ⟨by rfl,?_⟩) ?_ ?_
              rotate_left
              ·intro w'
               go_simp
               with_reducible rfl
              rotate_left
              ·simp only [Act.put,List.setIfInBounds_toArray,List.set_cons_zero,List.set_cons_succ,i64_w,i32_w]
               rfl
              refine pure_ (i:=1) (N:=some 51) (v:=?_) (a':=?_) #[true,true,false,false,false,false,false,false,false,false] rfl rfl (any_of HT_.out (by kernel_rfl)) (fun _ _ _ h=>h) (Or.inl ⟨by rfl,?_⟩) ?_ ?_
              rotate_left
              ·intro w'
               go_simp
               with_reducible rfl
              rotate_left
              ·simp only [Act.put,List.setIfInBounds_toArray,List.set_cons_zero,List.set_cons_succ,i64_w,i32_w]
               rfl
              refine pure_ (i:=2) (N:=some 52) (v:=?_) (a':=?_) #[true,true,true,false,false,false,false,false,false,false] rfl rfl (any_of HT_.out (by kernel_rfl)) (fun _ _ _ h=>h) (Or.inl ⟨by rfl,?_⟩) ?_ ?_
              rotate_left
              ·intro w'
               go_simp
               with_reducible rfl
              rotate_left
              ·simp only [Act.put,List.setIfInBounds_toArray,List.set_cons_zero,List.set_cons_succ,i64_w,i32_w]
               rfl
              refine pure_ (i:=4) (N:=some 54) (v:=?_) (a':=?_) #[true,true,true,false,true,false,false,false,false,false] rfl rfl (any_of HT_.out (by kernel_rfl)) (fun _ _ _ h=>h) (Or.inl ⟨by rfl,?_⟩) ?_ ?_
              rotate_left
              ·intro w'
               go_simp
               with_reducible rfl
              rotate_left
              ·simp only [Act.put,List.setIfInBounds_toArray,List.set_cons_zero,List.set_cons_succ,i64_w,i32_w]
               rfl
              refine pure_ (i:=5) (N:=some 55) (v:=?_) (a':=?_) #[true,true,true,false,true,true,false,false,false,false] rfl rfl (any_of HT_.out (by kernel_rfl)) (fun _ _ _ h=>h) (Or.inl ⟨by rfl,?_⟩) ?_ ?_
              rotate_left
              ·intro w'
               go_simp
               with_reducible rfl
              rotate_left
              ·simp only [Act.put,List.setIfInBounds_toArray,List.set_cons_zero,List.set_cons_succ,i64_w,i32_w]
               rfl
              refine pure_ (i:=6) (N:=some 56) (v:=?_) (a':=?_) #[true,true,true,false,true,true,true,false,false,false] rfl rfl (any_of HT_.out (by kernel_rfl)) (fun _ _ _ h=>h) (Or.inl ⟨by rfl,?_⟩) ?_ ?_
              rotate_left
              ·intro w'
               go_simp
               with_reducible rfl
              rotate_left
              ·simp only [Act.put,List.setIfInBounds_toArray,List.set_cons_zero,List.set_cons_succ,i64_w,i32_w]
               rfl
              refine take_ (i:=3) (N:=some 53) (v:=?_) (a':=?_) #[true,true,true,true,true,true,true,false,false,false] rfl rfl (take_ofW HT_.out HW_.out (by kernel_rfl)) (fun _ _ _ h=>h) (Or.inl ⟨by rfl,?_⟩) hHeld ?_ ?_
              rotate_left
              ·rintro w' ⟨s0,s1,s2,s3⟩
               go_simp
               with_reducible rfl
              rotate_left
              ·simp only [Act.put,List.setIfInBounds_toArray,List.set_cons_zero,List.set_cons_succ,i64_w,i32_w]
               rfl
              refine pure_ (i:=7) (N:=some 57) (v:=?_) (a':=?_) #[true,true,true,true,true,true,true,true,false,false] rfl rfl (any_of HT_.out (by kernel_rfl)) (fun _ _ _ h=>h) (Or.inl ⟨by rfl,?_⟩) ?_ ?_
              rotate_left
              ·intro w'
               go_simp
               with_reducible rfl
              rotate_left
              ·simp only [Act.put,List.setIfInBounds_toArray,List.set_cons_zero,List.set_cons_succ,i64_w,i32_w]
               rfl
              refine pure_ (i:=8) (N:=some 58) (v:=?_) (a':=?_) #[true,true,true,true,true,true,true,true,true,false] rfl rfl (any_of HT_.out (by kernel_rfl)) (fun _ _ _ h=>h) (Or.inl ⟨by rfl,?_⟩) ?_ ?_
              rotate_left
              ·intro w'
               go_simp
               with_reducible rfl
              rotate_left
              ·simp only [Act.put,List.setIfInBounds_toArray,List.set_cons_zero,List.set_cons_succ,i64_w,i32_w]
               rfl
              refine last_ (i:=9) (N:=none) #[true,true,true,true,true,true,true,true,true,true] rfl rfl (one_of HT_.out (by kernel_rfl)) (by decide) (fun K hK=>?_)
              refine skip_ (w1:=?_) (by rfl) rfl ?_ ?_
              rotate_left
              ·go_simp
               rfl
              refine hK.out _ _ ?_
              clear hK K
              refine done_ (done_of HT_.out (by kernel_rfl)) ?_
              try go_wp2
              go_roundg k2
              case measure=>have:=HJ4.out;have:=HK2.out;omega
              case rel=>exact ⟨(wrap64 (Int.tdiv x1_2 (wrap64 ((wrap64 (((rd_T74 l0_0 x9_2).f2) - ((rd_T74 l0_0 x9_2).f1))) + 1)))),(y384),(wrap64 (x9_2 - 1)),(by first|rfl|(simp;done)|(simp [*];done)),(by first|rfl|(simp;done)|(simp [*];done)),H',⟨by have:=HJ4.out;have:=HK2.out;omega⟩,⟨by (with_reducible repeat (first|apply Kd.R_alloc|apply Kd.R_drewN|apply Kd.R_drew));exact HQ29.out⟩,⟨by (with_reducible repeat (first|refine zL ?_ _|refine zM ?_|refine zK ?_ _));refine blk_far ?_ (by have h_:=Kd.R_ne HO_8.out BK376.out (by decide);intro e_;exact h_ (by rw [e_];rfl)) _;(with_reducible repeat (first|refine zL ?_ _|refine zM ?_|refine zK ?_ _));exact BK376.out⟩,⟨by repeat (first|(with_reducible first|exact HB.out|apply zD|apply zC|apply zE|refine zF ?_ GB22.out|refine zF ?_ GE376.out|refine zF ?_ GE383.out)|exact HB.out)⟩⟩
             ·rw [if_neg c21] at H
              exact absurd H (by simp)
           ·rw [if_neg c19] at H
            exact absurd H (by simp)
          ·rw [if_neg c18] at H
           exact absurd H (by simp)
         ·rw [if_neg c17] at H
          have c17b0:decide (0 ≤ x9_2) = false:=zR c17
          clear c17
          simp only [Option.some.injEq,Prod.mk.injEq] at H
          obtain ⟨rfl,rfl⟩:=H
          go_wp2
          go_ret2
          exact ⟨_,by first|rfl|(simp [errW_none,errW_some] <;> rfl)|(simp [*,errW_none,errW_some] <;> rfl),by (with_reducible repeat (first|apply Kd.R_alloc|apply Kd.R_drewN|apply Kd.R_drew));exact HO_8.out,by repeat (first|(with_reducible first|exact HB.out|apply zD|apply zC|apply zE|refine zF ?_ GE376.out)|exact HB.out)⟩
      ·rw [if_neg c12] at H
       exact absurd H (by simp)
     ·rw [if_neg c11] at H
      exact absurd H (by simp)
 ·rw [if_neg c4] at H
  have c4b0:(t378 == 0) = false:=beq_eq_false_iff_ne.mpr c4
  have c4b1:(t378 != 0) = true:=bne_iff_ne.mpr c4
  simp only [Option.some.injEq,Prod.mk.injEq] at H
  obtain ⟨rfl,rfl⟩:=H
  go_enter Tryd.func30,Tryd.ntmps30
  go_wp2_with (first|((with_reducible refine zV (N:=2) rfl ?_);refine zW ?hg (N:=2) ?hd (cs:=#[.slice A0_0 l0_0.length c0_0,.slice A0_1 l0_1.length c0_1]) (t:=25) ?hr ?_;(case hd=>rfl);(case hg=>rfl);(case hr=>first|(go_simp;done)|(go_simp;rfl));intro gb376 hg w30 hbox hb;have n0_:=zA (zH (by repeat (first|(with_reducible first|exact HB.out|apply zD|apply zC|apply zE)|exact HB.out)) hb);have n1_:=zA (hbox);have n2_:=zA ((by rw [hg];exact (zG (by repeat (first|(with_reducible first|exact HB.out|apply zD|apply zC|apply zE)|exact HB.out))):w.heap.size ≤ gb376));have n3_:=zA ((by rw [hg];exact (zG (by repeat (first|(with_reducible first|exact HB.out|apply zD|apply zC|apply zE)|exact HB.out))):w.heap.size ≤ gb376));clear HB;have HB:=n0_;have BK376:=n1_;have GW376:=n2_;have GE376:=n3_;clear n0_ n1_ n2_ n3_;clear hb hbox hg;have hcz31_0:w30.cell? ⟨gb376,0,none⟩ = some (.slice A0_0 l0_0.length c0_0):=(zI BK376.out 0).trans rfl;have hcz31_1:w30.cell? ⟨gb376,1,none⟩ = some (.slice A0_1 l0_1.length c0_1):=(zI BK376.out 1).trans rfl;have hfz31_0:=zJ BK376.out 0;have hfz31_1:=zJ BK376.out 1)|((with_reducible refine zU (f:=19) rfl ?_);refine goesL_ (some 14) rfl rfl Tryd.func19 (by kernel_rfl) rfl #[.agg #[.slice A0_0 l0_0.length c0_0,.slice A0_1 l0_1.length c0_1]] rfl (by (try simp only [List.map_toArray,List.map_cons,List.map_nil]);first|done|rfl|(simp only [List.length_drop,List.length_take];rfl)) ?_;(with_reducible refine (model_Count.calls k _ _ l0_0 _ _ l0_1 t377 t378 _ ?side1 ?side2 ?side3 ?side4 ?side5 A3.out).mono ?_);(case side1=>repeat (first|exact (zT HR0_0.out HB.out)|(with_reducible refine Kd.C_alloc ?_ _)|(with_reducible refine Kd.C_drewN ?_ _)|(with_reducible refine Kd.C_drew ?_)));(case side2=>exact HC0_0.out);(case side3=>repeat (first|exact (zT HR0_1.out HB.out)|(with_reducible refine Kd.C_alloc ?_ _)|(with_reducible refine Kd.C_drewN ?_ _)|(with_reducible refine Kd.C_drew ?_)));(case side4=>exact HC0_1.out);(case side5=>first|exact LaidG.below HLd.out (by repeat (first|(with_reducible first|exact HB.out|apply zD|apply zC|apply zE|refine zF ?_ GE376.out)|exact HB.out))|(refine LaidG.below HLd.out ?_;repeat (with_reducible first|exact HB.out|exact Below.refl _ _|apply zD|apply zC|apply zE);done));rintro e w32 ⟨rfl,hb⟩;refine ⟨_,rfl,?_⟩;have n0_:=zA (zN (g:=gb376) (o:=.cells #[.slice A0_0 l0_0.length c0_0,.slice A0_1 l0_1.length c0_1] 25 (0,0)) (by (with_reducible repeat (first|refine zL ?_ _|refine zM ?_|refine zK ?_ _));exact BK376.out) hb);have n1_:=zA (zH (by repeat (first|(with_reducible first|exact HB.out|apply zD|apply zC|apply zE|refine zF ?_ GE376.out)|exact HB.out)) hb);clear BK376;clear HB;have BK376:=n0_;have HB:=n1_;clear n0_ n1_;(try clear hb);(try clear hb2);(try clear hk);(try clear hi)))
  go_ret2
  exact ⟨_,by first|rfl|(simp [errW_none,errW_some] <;> rfl)|(simp [*,errW_none,errW_some] <;> rfl),by first|exact Kd.R_nil _ _ _ _ _|exact Kd.N_nil _ _ _ _ _|exact Kd.V_nil _ _ _ _ _|exact Kd.Q_nil _ _ _ _ _|exact Kd.S_nil _ _ _ _ _,by repeat (first|(with_reducible first|exact HB.out|apply zD|apply zC|apply zE|refine zF ?_ GE376.out)|exact HB.out)⟩
 
/-! ### foretellref_ValuesOf: function 31 -/
def foretellref_ValuesOf.l0:Nat → Int → List Int → Int → List (S74) → List (S68) → Option (List Int × Int)
 | 0,_,_,_,_,_=>none
 | k + 1,x1,x8,x9,x386000,x386001=>if x9 < (x386000.length:Int) then ((foretellref_behindVar.f k x386000 x386001 x9).bind fun t389=>(if 0 ≤ x9 then (if t389 = 0 then (none) else (if x8.length < 17592186044416 then (foretellref_ValuesOf.l0 k (Int.tmod x1 t389) (x8 ++ [wrap64 (((rd_T74 x386000 x9).f1) + (wrap64 (Int.tdiv x1 t389)))]) (wrap64 (x9 + 1)) x386000 x386001) else (none))) else (none))) else (some (x8,0))
def foretellref_ValuesOf.f (k:Nat) (l0_0:List (S74)) (l0_1:List (S68)) (a1:Int):Option (List Int × Int):=(foretellref_StateCount.f k l0_0 l0_1).bind fun bt386=>(if bt386.2 = 0 then ((foretellref_In.f a1 0 (wrap64 (bt386.1 - 1))).bind fun t388=>(if t388 = true then (foretellref_ValuesOf.l0 k a1 ([]:List Int) 0 l0_0 l0_1) else (some (([]:List Int),9)))) else (some (([]:List Int),bt386.2)))
theorem foretellref_ValuesOf.mono_l:∀ k,(∀ y0 y1 y2 y3 y4,LeO (foretellref_ValuesOf.l0 k y0 y1 y2 y3 y4) (foretellref_ValuesOf.l0 (k + 1) y0 y1 y2 y3 y4))
 | 0=>fun _ _ _ _ _ r h=>by simp [foretellref_ValuesOf.l0] at h
 | k + 1=>by
  have ih0:=foretellref_ValuesOf.mono_l k
  ·intro y0 y1 y2 y3 y4
   unfold foretellref_ValuesOf.l0
   repeat' first
   | (with_reducible exact ih0 _ _ _ _ _)
   | (with_reducible exact foretellref_StateCount.mono _ _ _)
   | (with_reducible exact foretellref_behindVar.mono _ _ _ _)
   | (with_reducible exact LeO.refl _)
   | (with_reducible exact LeO.none _)
   | (with_reducible refine LeO.ite ?_ ?_)
   | (with_reducible refine LeO.bind ?_ (fun _=>?_))
   | exact ih0 _ _ _ _ _
   | exact foretellref_StateCount.mono _ _ _
   | exact foretellref_behindVar.mono _ _ _ _
   | exact LeO.none _
   | refine LeO.ite ?_ ?_
   | refine LeO.bind ?_ (fun _=>?_)
theorem foretellref_ValuesOf.mono:∀ a0 a1 a2 k,LeO (foretellref_ValuesOf.f k a0 a1 a2) (foretellref_ValuesOf.f (k + 1) a0 a1 a2):=by
 intro a0 a1 a2 k
 have ih0:=foretellref_ValuesOf.mono_l k
 unfold foretellref_ValuesOf.f
 repeat' first
   | (with_reducible exact ih0 _ _ _ _ _)
   | (with_reducible exact foretellref_StateCount.mono _ _ _)
   | (with_reducible exact foretellref_behindVar.mono _ _ _ _)
   | (with_reducible exact LeO.refl _)
   | (with_reducible exact LeO.none _)
   | (with_reducible refine LeO.ite ?_ ?_)
   | (with_reducible refine LeO.bind ?_ (fun _=>?_))
   | exact ih0 _ _ _ _ _
   | exact foretellref_StateCount.mono _ _ _
   | exact foretellref_behindVar.mono _ _ _ _
   | exact LeO.none _
   | refine LeO.ite ?_ ?_
   | refine LeO.bind ?_ (fun _=>?_)
def foretellref_ValuesOf.T11:Bool × List (List Nat × List Nat):=(true,[([],[]),([],[]),([1],[1]),([],[]),([2,3],[2,3]),([4],[4]),([5],[5]),([],[]),([],[]),([7,8],[7,8]),([6,9],[6,9]),([10],[10]),([0,11],[0,11]),([12,12,0,1,2,3,4,5,6,7,8,9,10,11,12],[0,12])])
def foretellref_ValuesOf.B11:List Nat:=[0,0,2,0,14,30,62,0,0,384,1022,2046,4095,8191]
theorem foretellref_ValuesOf.tab11:rtab .any (opsOf Tryd.f31 11) = foretellref_ValuesOf.T11:=by kernel_rfl
theorem foretellref_ValuesOf.bits11:waitsOk foretellref_ValuesOf.T11.2 foretellref_ValuesOf.B11 = true:=by kernel_rfl
set_option maxHeartbeats 8000000 in
set_option maxRecDepth 100000 in
theorem foretellref_ValuesOf.calls (k:Nat) (A0_0:Option Addr) (c0_0:Nat) (l0_0:List (S74)) (A0_1:Option Addr) (c0_1:Nat) (l0_1:List (S68)) (a1:Int) (r1:List Int) (r2:Int) (w:World) (hr0_0:Kd.C k74 w A0_0 l0_0.length l0_0) (hc0_0:l0_0.length ≤ c0_0) (hr0_1:Kd.C k68 w A0_1 l0_1.length l0_1) (hc0_1:l0_1.length ≤ c0_1) (h:foretellref_ValuesOf.f k l0_0 l0_1 a1 = some (r1,r2)) :
  Calls Tryd.prog 31 #[.agg #[.slice A0_0 l0_0.length c0_0,.slice A0_1 l0_1.length c0_1],.int .i64 a1] w fun e w'=>∃ v0_:Value,e = .returned (.tuple #[v0_,.int .i64 r2])∧Kd.R (Kd.int .i64) 3 w' w.heap.size (fun _=>True) v0_ r1∧Below w.heap.size w w':=by
 have hu25:=Tryd.underlying25
 have HR0_0:=zA hr0_0
 have HC0_0:=zA hc0_0
 clear hr0_0 hc0_0
 have HR0_1:=zA hr0_1
 have HC0_1:=zA hc0_1
 clear hr0_1 hc0_1
 have HB:=zA (Below.refl w.heap.size w)
 have H:((foretellref_StateCount.f k l0_0 l0_1).bind fun bt386=>(if bt386.2 = 0 then ((foretellref_In.f a1 0 (wrap64 (bt386.1 - 1))).bind fun t388=>(if t388 = true then (foretellref_ValuesOf.l0 k a1 ([]:List Int) 0 l0_0 l0_1) else (some (([]:List Int),9)))) else (some (([]:List Int),bt386.2)))) = some (r1,r2):=h
 clear h
 replace H:=Option.bind_eq_some_iff.mp H
 obtain ⟨⟨t386,t387⟩,A30,H⟩:=H
 replace H:(if t387 = 0 then ((foretellref_In.f a1 0 (wrap64 (t386 - 1))).bind fun t388=>(if t388 = true then (foretellref_ValuesOf.l0 k a1 ([]:List Int) 0 l0_0 l0_1) else (some (([]:List Int),9)))) else (some (([]:List Int),t387))) = some (r1,r2):=H
 have A3:=zA A30
 clear A30
 by_cases c4:t387 = 0
 ·rw [if_pos c4] at H
  have c4b0:(t387 == 0) = true:=beq_iff_eq.mpr c4
  have c4b1:(t387 != 0) = false:=bne_eq_false_iff_eq.mpr c4
  clear c4
  replace H:=Option.bind_eq_some_iff.mp H
  obtain ⟨t388,A50,H⟩:=H
  replace H:(if t388 = true then (foretellref_ValuesOf.l0 k a1 ([]:List Int) 0 l0_0 l0_1) else (some (([]:List Int),9))) = some (r1,r2):=H
  have A5:=zA A50
  clear A50
  by_cases c6:t388 = true
  ·subst c6
   have H1:(foretellref_ValuesOf.l0 k a1 ([]:List Int) 0 l0_0 l0_1) = some (r1,r2):=by rw [if_pos rfl] at H;exact H
   clear H
   have H:=H1
   clear H1
   have H':=zA H
   clear H
   go_enter Tryd.func31,Tryd.ntmps31
   go_wp2_with (first|((with_reducible refine zV (N:=2) rfl ?_);refine zW ?hg (N:=2) ?hd (cs:=#[.slice A0_0 l0_0.length c0_0,.slice A0_1 l0_1.length c0_1]) (t:=25) ?hr ?_;(case hd=>rfl);(case hg=>rfl);(case hr=>first|(go_simp;done)|(go_simp;rfl));intro gb385 hg w7 hbox hb;have n0_:=zA (zH (by repeat (first|(with_reducible first|exact HB.out|apply zD|apply zC|apply zE)|exact HB.out)) hb);have n1_:=zA (hbox);have n2_:=zA ((by rw [hg];exact (zG (by repeat (first|(with_reducible first|exact HB.out|apply zD|apply zC|apply zE)|exact HB.out))):w.heap.size ≤ gb385));have n3_:=zA ((by rw [hg];exact (zG (by repeat (first|(with_reducible first|exact HB.out|apply zD|apply zC|apply zE)|exact HB.out))):w.heap.size ≤ gb385));clear HB;have HB:=n0_;have BK385:=n1_;have GW385:=n2_;have GE385:=n3_;clear n0_ n1_ n2_ n3_;clear hb hbox hg;have hcz8_0:w7.cell? ⟨gb385,0,none⟩ = some (.slice A0_0 l0_0.length c0_0):=(zI BK385.out 0).trans rfl;have hcz8_1:w7.cell? ⟨gb385,1,none⟩ = some (.slice A0_1 l0_1.length c0_1):=(zI BK385.out 1).trans rfl;have hfz8_0:=zJ BK385.out 0;have hfz8_1:=zJ BK385.out 1)|((with_reducible refine zU (f:=20) rfl ?_);refine goesL_ (some 13) rfl rfl Tryd.func20 (by kernel_rfl) rfl #[.agg #[.slice A0_0 l0_0.length c0_0,.slice A0_1 l0_1.length c0_1]] rfl (by (try simp only [List.map_toArray,List.map_cons,List.map_nil]);first|done|rfl|(simp only [List.length_drop,List.length_take];rfl)) ?_;(with_reducible refine (foretellref_StateCount.calls k _ _ l0_0 _ _ l0_1 t386 t387 _ ?side1 ?side2 ?side3 ?side4 A3.out).mono ?_);(case side1=>repeat (first|exact (zT HR0_0.out HB.out)|(with_reducible refine Kd.C_alloc ?_ _)|(with_reducible refine Kd.C_drewN ?_ _)|(with_reducible refine Kd.C_drew ?_)));(case side2=>exact HC0_0.out);(case side3=>repeat (first|exact (zT HR0_1.out HB.out)|(with_reducible refine Kd.C_alloc ?_ _)|(with_reducible refine Kd.C_drewN ?_ _)|(with_reducible refine Kd.C_drew ?_)));(case side4=>exact HC0_1.out);rintro e w9 ⟨rfl,hb⟩;refine ⟨_,rfl,?_⟩;have n0_:=zA (zN (g:=gb385) (o:=.cells #[.slice A0_0 l0_0.length c0_0,.slice A0_1 l0_1.length c0_1] 25 (0,0)) (by (with_reducible repeat (first|refine zL ?_ _|refine zM ?_|refine zK ?_ _));exact BK385.out) hb);have n1_:=zA (zH (by repeat (first|(with_reducible first|exact HB.out|apply zD|apply zC|apply zE|refine zF ?_ GE385.out)|exact HB.out)) hb);clear BK385;clear HB;have BK385:=n0_;have HB:=n1_;clear n0_ n1_;(try clear hb);(try clear hb2);(try clear hk);(try clear hi))|((with_reducible refine zU (f:=56) rfl ?_);refine goesL_ (some 22) rfl rfl Tryd.func56 (by kernel_rfl) rfl #[.int .i64 a1,.int .i64 0,.int .i64 (wrap64 (t386 - 1))] rfl (by (try simp only [List.map_toArray,List.map_cons,List.map_nil]);first|done|rfl|(simp only [List.length_drop,List.length_take];rfl)) ?_;(with_reducible refine (foretellref_In.calls a1 0 (wrap64 (t386 - 1)) true _ A5.out).mono ?_);rintro e w' ⟨rfl,⟨nd,rfl⟩⟩;refine ⟨_,rfl,?_⟩))
   go_loopg [1,8,9] k (fun kq v1 v8 v9 w'=>∃ (x1_1:Int) (x8_1:List Int) (x9_1:Int),v1 = .int .i64 x1_1∧v9 = .int .i64 x9_1∧Aside0 (foretellref_ValuesOf.l0 kq x1_1 x8_1 x9_1 l0_0 l0_1 = some (r1,r2))∧Aside0 (kq ≤ k)∧Aside0 (Kd.R (Kd.int .i64) 3 w' w.heap.size (fun _=>True) v8 x8_1)∧Aside0 (w'.heap[gb385]? = some (.cells #[(.slice A0_0 l0_0.length c0_0),(.slice A0_1 l0_1.length c0_1)] 25 (0,0)))∧Aside0 (Below w.heap.size w w'))
   case atStart=>exact ⟨(a1),(([]:List Int)),(0),(by first|rfl|(simp;done)|(simp [*];done)),(by first|rfl|(simp;done)|(simp [*];done)),H',⟨Nat.le_refl _⟩,⟨by first|exact Kd.R_nil _ _ _ _ _|exact Kd.N_nil _ _ _ _ _|exact Kd.V_nil _ _ _ _ _|exact Kd.Q_nil _ _ _ _ _|exact Kd.S_nil _ _ _ _ _⟩,⟨by (with_reducible repeat (first|refine zL ?_ _|refine zM ?_|refine zK ?_ _));exact BK385.out⟩,⟨by repeat (first|(with_reducible first|exact HB.out|apply zD|apply zC|apply zE|refine zF ?_ GE385.out)|exact HB.out)⟩⟩
   case round =>
    clear H'
    try clear c2
    try clear p2
    try clear c3
    try clear c4
    try clear c4b0
    try clear c4b1
    try clear c5
    try clear c6
    try clear p6
    try clear hcz8_0
    try clear hcz8_1
    try clear hfz8_0
    try clear hfz8_1
    obtain ⟨x1_1,x8_1,x9_1,rfl,rfl,HA,HK1,HO_8,BK385,HB⟩:=hrel
    cases gk with
    | zero=>exact absurd HA.out (by simp [foretellref_ValuesOf.l0])
    | succ k1 =>
     have H:=HA.out
     clear HA
     simp only [foretellref_ValuesOf.l0] at H
     by_cases c10:x9_1 < (l0_0.length:Int)
     ·rw [if_pos c10] at H
      have c10b0:decide (x9_1 < (l0_0.length:Int)) = true:=zQ c10
      clear c10
      replace H:=Option.bind_eq_some_iff.mp H
      obtain ⟨t389,A110,H⟩:=H
      replace H:(if 0 ≤ x9_1 then (if t389 = 0 then (none) else (if x8_1.length < 17592186044416 then (foretellref_ValuesOf.l0 k1 (Int.tmod x1_1 t389) (x8_1 ++ [wrap64 (((rd_T74 l0_0 x9_1).f1) + (wrap64 (Int.tdiv x1_1 t389)))]) (wrap64 (x9_1 + 1)) l0_0 l0_1) else (none))) else (none)) = some (r1,r2):=H
      have A11:=zA A110
      clear A110
      by_cases c12:0 ≤ x9_1
      ·rw [if_pos c12] at H
       have c12b0:decide (0 ≤ x9_1) = true:=zQ c12
       clear c12
       by_cases c13:t389 = 0
       ·rw [if_pos c13] at H
        exact absurd H (by simp)
       ·rw [if_neg c13] at H
        have c13b0:(t389 == 0) = false:=beq_eq_false_iff_ne.mpr c13
        have c13b1:(t389 != 0) = true:=bne_iff_ne.mpr c13
        by_cases c14:x8_1.length < 17592186044416
        ·rw [if_pos c14] at H
         have LMc14:=zA c14
         clear c14
         obtain ⟨y391,hy391⟩:∃ y_:List Int,y_ = (x8_1 ++ [wrap64 (((rd_T74 l0_0 x9_1).f1) + (wrap64 (Int.tdiv x1_1 t389)))]):=⟨_,rfl⟩
         replace H:(foretellref_ValuesOf.l0 k1 (Int.tmod x1_1 t389) y391 (wrap64 (x9_1 + 1)) l0_0 l0_1) = some (r1,r2):=by first|(rw [hy391];with_reducible exact H)|(have H2_:=(Option.bind_some _ _).symm.trans H;rw [hy391];with_reducible exact H2_)|(have H2_:=(Option.bind_some _ _).symm.trans H;with_reducible exact H2_)|with_reducible exact H|(rw [hy391];exact H)|exact H
         have Ny391:=zA hy391
         clear hy391
         have H':=zA H
         clear H
         have hcz15_0:wr.cell? ⟨gb385,0,none⟩ = some (.slice A0_0 l0_0.length c0_0):=(zI BK385.out 0).trans rfl
         have hcz15_1:wr.cell? ⟨gb385,1,none⟩ = some (.slice A0_1 l0_1.length c0_1):=(zI BK385.out 1).trans rfl
         have hfz15_0:=zJ BK385.out 0
         have hfz15_1:=zJ BK385.out 1
         try go_wp2_with (first|((with_reducible refine zU (f:=53) rfl ?_);refine goesL_ (some 33) rfl rfl Tryd.func53 (by kernel_rfl) rfl #[.agg #[.slice A0_0 l0_0.length c0_0,.slice A0_1 l0_1.length c0_1],.int .i64 x9_1] rfl (by (try simp only [List.map_toArray,List.map_cons,List.map_nil]);first|done|rfl|(simp only [List.length_drop,List.length_take];rfl)) ?_;(with_reducible refine (foretellref_behindVar.calls k1 _ _ l0_0 _ _ l0_1 x9_1 t389 _ ?side1 ?side2 ?side3 ?side4 A11.out).mono ?_);(case side1=>repeat (first|exact (zT HR0_0.out HB.out)|(with_reducible refine Kd.C_alloc ?_ _)|(with_reducible refine Kd.C_drewN ?_ _)|(with_reducible refine Kd.C_drew ?_)));(case side2=>exact HC0_0.out);(case side3=>repeat (first|exact (zT HR0_1.out HB.out)|(with_reducible refine Kd.C_alloc ?_ _)|(with_reducible refine Kd.C_drewN ?_ _)|(with_reducible refine Kd.C_drew ?_)));(case side4=>exact HC0_1.out);rintro e w16 ⟨rfl,hb⟩;refine ⟨_,rfl,?_⟩;have n0_:=zA (Kd.R_below (by (with_reducible repeat (first|apply Kd.R_alloc|apply Kd.R_drewN|apply Kd.R_drew));exact HO_8.out) hb);have n1_:=zA (zN (g:=gb385) (o:=.cells #[.slice A0_0 l0_0.length c0_0,.slice A0_1 l0_1.length c0_1] 25 (0,0)) (by (with_reducible repeat (first|refine zL ?_ _|refine zM ?_|refine zK ?_ _));exact BK385.out) hb);have n2_:=zA (zH (by repeat (first|(with_reducible first|exact HB.out|apply zD|apply zC|apply zE|refine zF ?_ GE385.out)|exact HB.out)) hb);clear HO_8;clear BK385;clear HB;have HO_8:=n0_;have BK385:=n1_;have HB:=n2_;clear n0_ n1_ n2_;(try clear hb);(try clear hb2);(try clear hk);(try clear hi)))
         have n0_:=zA (Kd.R_drew HO_8.out)
         have n1_:=zA (zM BK385.out)
         have n2_:=zA (zE HB.out)
         clear HO_8
         clear BK385
         clear HB
         have HO_8:=n0_
         have BK385:=n1_
         have HB:=n2_
         clear n0_ n1_ n2_
         have p390:0 ≤ (x9_1:Int):=zP (by assumption)
         have q390:x9_1 < (l0_0.length:Int):=zP (by assumption)
         obtain ⟨ad390,e390,hx390_0,hx390_1,hx390_2,hx390_3⟩:=at_T74 HR0_0.out x9_1 p390 q390
         have hw390_3:=hx390_3
         have hw390_2:=hx390_2
         have hw390_1:=hx390_1
         have hw390_0:=hx390_0
         cases e390
         replace hx390_0:=(HB.out.cell (zB w _ hx390_0)).trans hx390_0
         replace hx390_1:=(HB.out.cell (zB w _ hx390_1)).trans hx390_1
         replace hx390_2:=(HB.out.cell (zB w _ hx390_2)).trans hx390_2
         replace hx390_3:=(HB.out.cell (zB w _ hx390_3)).trans hx390_3
         replace p390:=eq_true p390
         replace q390:=eq_true q390
         refine start_ (n:=14) (S:=fun w'=>w'.cell? ⟨gb385,0,none⟩ = some (.slice (some ad390) l0_0.length c0_0)∧w'.cell? ⟨gb385,1,none⟩ = some (.slice A0_1 l0_1.length c0_1)∧w'.cell? (ad390.add ((x9_1).toNat * 4)) = some (.string ((rd_T74 l0_0 x9_1).f0))∧w'.cell? ⟨(ad390.add ((x9_1).toNat * 4)).block,(ad390.add ((x9_1).toNat * 4)).off + 1,none⟩ = some (.int .i64 ((rd_T74 l0_0 x9_1).f1))∧w'.cell? ⟨(ad390.add ((x9_1).toNat * 4)).block,(ad390.add ((x9_1).toNat * 4)).off + 2,none⟩ = some (.int .i64 ((rd_T74 l0_0 x9_1).f2))∧w'.cell? ⟨(ad390.add ((x9_1).toNat * 4)).block,(ad390.add ((x9_1).toNat * 4)).off + 3,none⟩ = some (.int .i64 ((rd_T74 l0_0 x9_1).f3))) (ds:=[]) #[false,false,false,false,false,false,false,false,false,false,false,false,false,false] (by kernel_rfl) rfl rfl ⟨(zI BK385.out 0).trans rfl,(zI BK385.out 1).trans rfl,((HB.out.cell (zB w _ hw390_0)).trans hw390_0),((HB.out.cell (zB w _ hw390_1)).trans hw390_1),((HB.out.cell (zB w _ hw390_2)).trans hw390_2),((HB.out.cell (zB w _ hw390_3)).trans hw390_3)⟩ (fun hHeld=>?_);refine with_tabW foretellref_ValuesOf.tab11 foretellref_ValuesOf.bits11 (fun HT_ HW_=>?_)
         generalize w16.drew = w17 at HO_8 BK385 HB hx390_0 hx390_1 hx390_2 hx390_3 hHeld ⊢
         refine pure_ (i:=0) (N:=some 34) (v:=?_) (a':=?_) #[true,false,false,false,false,false,false,false,false,false,false,false,false,false] rfl rfl (any_of HT_.out (by kernel_rfl)) (fun _ _ _ h=>h) (Or.inl ⟨by rfl,?_⟩) ?_ ?_
         rotate_left
         ·intro w'
          go_simp
          with_reducible rfl
         rotate_left
         ·simp only [Act.put,List.setIfInBounds_toArray,List.set_cons_zero,List.set_cons_succ,i64_w,i32_w]
          rfl
         refine pure_ (i:=1) (N:=some 35) (v:=?_) (a':=?_) #[true,true,false,false,false,false,false,false,false,false,false,false,false,false] rfl rfl (any_of HT_.out (by kernel_rfl)) (fun _ _ _ h=>h) (Or.inl ⟨by rfl,?_⟩) ?_ ?_
         rotate_left
         ·intro w'
          go_simp
          with_reducible rfl
         rotate_left
         ·simp only [Act.put,List.setIfInBounds_toArray,List.set_cons_zero,List.set_cons_succ,i64_w,i32_w]
          rfl
         refine pure_ (i:=3) (N:=some 37) (v:=?_) (a':=?_) #[true,true,false,true,false,false,false,false,false,false,false,false,false,false] rfl rfl (any_of HT_.out (by kernel_rfl)) (fun _ _ _ h=>h) (Or.inl ⟨by rfl,?_⟩) ?_ ?_
         rotate_left
         ·intro w'
          go_simp
          with_reducible rfl
         rotate_left
         ·simp only [Act.put,List.setIfInBounds_toArray,List.set_cons_zero,List.set_cons_succ,i64_w,i32_w]
          rfl
         refine pure_ (i:=7) (N:=some 41) (v:=?_) (a':=?_) #[true,true,false,true,false,false,false,true,false,false,false,false,false,false] rfl rfl (any_of HT_.out (by kernel_rfl)) (fun _ _ _ h=>h) (Or.inl ⟨by rfl,?_⟩) ?_ ?_
         rotate_left
         ·intro w'
          go_simp
          with_reducible rfl
         rotate_left
         ·simp only [Act.put,List.setIfInBounds_toArray,List.set_cons_zero,List.set_cons_succ,i64_w,i32_w]
          rfl
         refine pure_ (i:=8) (N:=some 42) (v:=?_) (a':=?_) #[true,true,false,true,false,false,false,true,true,false,false,false,false,false] rfl rfl (any_of HT_.out (by kernel_rfl)) (fun _ _ _ h=>h) (Or.inl ⟨by rfl,?_⟩) ?_ ?_
         rotate_left
         ·intro w'
          go_simp
          with_reducible rfl
         rotate_left
         ·simp only [Act.put,List.setIfInBounds_toArray,List.set_cons_zero,List.set_cons_succ,i64_w,i32_w]
          rfl
         refine pure_ (i:=9) (N:=some 43) (v:=?_) (a':=?_) #[true,true,false,true,false,false,false,true,true,true,false,false,false,false] rfl rfl (any_of HT_.out (by kernel_rfl)) (fun _ _ _ h=>h) (Or.inl ⟨by rfl,?_⟩) ?_ ?_
         rotate_left
         ·intro w'
          go_simp
          with_reducible rfl
         rotate_left
         ·simp only [Act.put,List.setIfInBounds_toArray,List.set_cons_zero,List.set_cons_succ,i64_w,i32_w]
          rfl
         refine take_ (i:=2) (N:=some 36) (v:=?_) (a':=?_) #[true,true,true,true,false,false,false,true,true,true,false,false,false,false] rfl rfl (take_ofW HT_.out HW_.out (by kernel_rfl)) (fun _ _ _ h=>h) (Or.inl ⟨by rfl,?_⟩) hHeld ?_ ?_
         rotate_left
         ·rintro w' ⟨s0,s1,s2,s3,s4,s5⟩
          go_simp
          with_reducible rfl
         rotate_left
         ·simp only [Act.put,List.setIfInBounds_toArray,List.set_cons_zero,List.set_cons_succ,i64_w,i32_w]
          rfl
         refine pure_ (i:=4) (N:=some 38) (v:=?_) (a':=?_) #[true,true,true,true,true,false,false,true,true,true,false,false,false,false] rfl rfl (any_of HT_.out (by kernel_rfl)) (fun _ _ _ h=>h) (Or.inl ⟨by rfl,?_⟩) ?_ ?_
         rotate_left
         ·intro w'
          go_simp
          with_reducible rfl
         rotate_left
         ·simp only [Act.put,List.setIfInBounds_toArray,List.set_cons_zero,List.set_cons_succ,i64_w,i32_w]
          rfl
         refine pure_ (i:=5) (N:=some 39) (v:=?_) (a':=?_) #[true,true,true,true,true,true,false,true,true,true,false,false,false,false] rfl rfl (any_of HT_.out (by kernel_rfl)) (fun _ _ _ h=>h) (Or.inl ⟨by rfl,?_⟩) ?_ ?_
         rotate_left
         ·intro w'
          go_simp
          with_reducible rfl
         rotate_left
         ·simp only [Act.put,List.setIfInBounds_toArray,List.set_cons_zero,List.set_cons_succ,i64_w,i32_w]
          rfl
         refine take_ (i:=6) (N:=some 40) (v:=?_) (a':=?_) #[true,true,true,true,true,true,true,true,true,true,false,false,false,false] rfl rfl (take_ofW HT_.out HW_.out (by kernel_rfl)) (fun _ _ _ h=>h) (Or.inl ⟨by rfl,?_⟩) hHeld ?_ ?_
         rotate_left
         ·rintro w' ⟨s0,s1,s2,s3,s4,s5⟩
          go_simp
          with_reducible rfl
         rotate_left
         ·simp only [Act.put,List.setIfInBounds_toArray,List.set_cons_zero,List.set_cons_succ,i64_w,i32_w]
          rfl
         refine pure_ (i:=10) (N:=some 44) (v:=?_) (a':=?_) #[true,true,true,true,true,true,true,true,true,true,true,false,false,false] rfl rfl (any_of HT_.out (by kernel_rfl)) (fun _ _ _ h=>h) (Or.inl ⟨by rfl,?_⟩) ?_ ?_
         rotate_left
         ·intro w'
          go_simp
          with_reducible rfl
         rotate_left
         ·simp only [Act.put,List.setIfInBounds_toArray,List.set_cons_zero,List.set_cons_succ,i64_w,i32_w]
          rfl
         refine one_ (i:=11) (N:=some 45) #[true,true,true,true,true,true,true,true,true,true,true,true,false,false] rfl rfl (one_of HT_.out (by kernel_rfl)) (by decide) (fun K hK=>?_)
         refine value_ (w1:=?_) (v:=?_) (by rfl) rfl ?_ ?_
         rotate_left 2
         ·go_simp
          constructor
          ·rfl
          ·rfl
         refine hK.out _ _ ⟨(zI (zK BK385.out _) 0).trans rfl,(zI (zK BK385.out _) 1).trans rfl,(World.cell?_alloc_lt _ _ _ (zB _ _ (((HB.out.cell (zB w _ hw390_0)).trans hw390_0)))).trans (((HB.out.cell (zB w _ hw390_0)).trans hw390_0)),(World.cell?_alloc_lt _ _ _ (zB _ _ (((HB.out.cell (zB w _ hw390_1)).trans hw390_1)))).trans (((HB.out.cell (zB w _ hw390_1)).trans hw390_1)),(World.cell?_alloc_lt _ _ _ (zB _ _ (((HB.out.cell (zB w _ hw390_2)).trans hw390_2)))).trans (((HB.out.cell (zB w _ hw390_2)).trans hw390_2)),(World.cell?_alloc_lt _ _ _ (zB _ _ (((HB.out.cell (zB w _ hw390_3)).trans hw390_3)))).trans (((HB.out.cell (zB w _ hw390_3)).trans hw390_3))⟩ (fun hHeld=>?_)
         clear hK K
         refine norm_ (a':=?_) ?_ ?_
         rotate_left
         ·show Act.put _ (some 45) _ = _
          simp only [Act.put,List.setIfInBounds_toArray,List.set_cons_zero,List.set_cons_succ,i64_w,i32_w]
          rfl
         refine one_ (i:=12) (N:=some 46) #[true,true,true,true,true,true,true,true,true,true,true,true,true,false] rfl rfl (one_of HT_.out (by kernel_rfl)) (by decide) (fun K hK=>?_)
         refine Kd.R_append_step (Kd.int .i64) (w0:=w) w.heap.size (by rfl) (.tmp 34) (.tmp 45) 37 3 (.int .i64 0) 8 rfl Tryd.underlying37 info3 rfl (by decide) (by omega) u8 x8_1 (wrap64 (((rd_T74 l0_0 x9_1).f1) + (wrap64 (Int.tdiv x1_1 t389)))) [.int .i64 (wrap64 (((rd_T74 l0_0 x9_1).f1) + (wrap64 (Int.tdiv x1_1 t389))))] (fun _=>True) (fun _=>False) rfl rfl ?aP (fun _ hk=>hk.elim) ?aF ?aO ?aB ?aS ?aL ?_
         (case aP=>exact rfl)
         (case aB=>exact (by repeat (first|(with_reducible first|exact HB.out|apply zD|apply zC|apply zE|refine zF ?_ GE385.out)|exact HB.out)))
         (case aF=>exact (fun _ _=>trivial))
         (case aO=>exact (by (with_reducible repeat (first|apply Kd.R_alloc|apply Kd.R_drewN|apply Kd.R_drew));exact HO_8.out))
         (case aS=>exact (zG (by repeat (first|(with_reducible first|exact HB.out|apply zD|apply zC|apply zE|refine zF ?_ GE385.out)|exact HB.out))))
         (case aL=>have:=LMc14.out;omega)
         intro v392 w18 ho hb hg hat
         rw [← Ny391.out] at ho
         have n0_:=zA (blk_grown (g:=gb385) (o:=.cells #[.slice (some ad390) l0_0.length c0_0,.slice A0_1 l0_1.length c0_1] 25 (0,0)) (by (with_reducible repeat (first|refine zL ?_ _|refine zM ?_|refine zK ?_ _));exact BK385.out) hg (Kd.R_ne HO_8.out BK385.out (by decide)))
         have n1_:=zA (hb)
         have n2_:=zA (ho)
         clear BK385
         clear HB
         clear HO_8
         have BK385:=n0_
         have HB:=n1_
         have HO393:=n2_
         clear n0_ n1_ n2_
         clear ho hb hg hat
         refine hK.out _ _ ⟨(zI BK385.out 0).trans rfl,(zI BK385.out 1).trans rfl,((HB.out.cell (zB w _ hw390_0)).trans hw390_0),((HB.out.cell (zB w _ hw390_1)).trans hw390_1),((HB.out.cell (zB w _ hw390_2)).trans hw390_2),((HB.out.cell (zB w _ hw390_3)).trans hw390_3)⟩ (fun hHeld=>?_)
         clear hK K
         refine norm_ (a':=?_) ?_ ?_
         rotate_left
         ·show Act.put _ (some 46) _ = _
          simp only [Act.put,List.setIfInBounds_toArray,List.set_cons_zero,List.set_cons_succ,i64_w,i32_w]
          rfl
         refine pure_ (i:=13) (N:=some 8) (v:=?_) (a':=?_) #[true,true,true,true,true,true,true,true,true,true,true,true,true,true] rfl rfl (any_of HT_.out (by kernel_rfl)) (fun _ _ _ h=>h) (Or.inl ⟨by rfl,?_⟩) ?_ ?_
         rotate_left
         ·intro w'
          go_simp
          with_reducible rfl
         rotate_left
         ·simp only [Act.put,List.setIfInBounds_toArray,List.set_cons_zero,List.set_cons_succ,i64_w,i32_w]
          rfl
         refine done_ (done_of HT_.out (by kernel_rfl)) ?_
         try go_wp2
         go_roundg k1
         case measure=>have:=HK1.out;omega
         case rel=>exact ⟨(Int.tmod x1_1 t389),(y391),(wrap64 (x9_1 + 1)),(by first|rfl|(simp;done)|(simp [*];done)),(by first|rfl|(simp;done)|(simp [*];done)),H',⟨by have:=HK1.out;omega⟩,⟨by (with_reducible repeat (first|apply Kd.R_alloc|apply Kd.R_drewN|apply Kd.R_drew));exact HO393.out⟩,⟨by (with_reducible repeat (first|refine zL ?_ _|refine zM ?_|refine zK ?_ _));exact BK385.out⟩,⟨by repeat (first|(with_reducible first|exact HB.out|apply zD|apply zC|apply zE|refine zF ?_ GE385.out)|exact HB.out)⟩⟩
        ·rw [if_neg c14] at H
         exact absurd H (by simp)
      ·rw [if_neg c12] at H
       exact absurd H (by simp)
     ·rw [if_neg c10] at H
      have c10b0:decide (x9_1 < (l0_0.length:Int)) = false:=zR c10
      clear c10
      simp only [Option.some.injEq,Prod.mk.injEq] at H
      obtain ⟨rfl,rfl⟩:=H
      have hcz19_0:wr.cell? ⟨gb385,0,none⟩ = some (.slice A0_0 l0_0.length c0_0):=(zI BK385.out 0).trans rfl
      have hcz19_1:wr.cell? ⟨gb385,1,none⟩ = some (.slice A0_1 l0_1.length c0_1):=(zI BK385.out 1).trans rfl
      have hfz19_0:=zJ BK385.out 0
      have hfz19_1:=zJ BK385.out 1
      go_wp2
      go_ret2
      exact ⟨_,by first|rfl|(simp [errW_none,errW_some] <;> rfl)|(simp [*,errW_none,errW_some] <;> rfl),by (with_reducible repeat (first|apply Kd.R_alloc|apply Kd.R_drewN|apply Kd.R_drew));exact HO_8.out,by repeat (first|(with_reducible first|exact HB.out|apply zD|apply zC|apply zE|refine zF ?_ GE385.out)|exact HB.out)⟩
  ·replace c6:=Bool.eq_false_iff.mpr c6
   subst c6
   have H1:(some (([]:List Int),9)) = some (r1,r2):=by rw [if_neg (show ¬ (false = true) by decide)] at H;exact H
   clear H
   have H:=H1
   clear H1
   simp only [Option.some.injEq,Prod.mk.injEq] at H
   obtain ⟨rfl,rfl⟩:=H
   go_enter Tryd.func31,Tryd.ntmps31
   go_wp2_with (first|((with_reducible refine zV (N:=2) rfl ?_);refine zW ?hg (N:=2) ?hd (cs:=#[.slice A0_0 l0_0.length c0_0,.slice A0_1 l0_1.length c0_1]) (t:=25) ?hr ?_;(case hd=>rfl);(case hg=>rfl);(case hr=>first|(go_simp;done)|(go_simp;rfl));intro gb385 hg w20 hbox hb;have n0_:=zA (zH (by repeat (first|(with_reducible first|exact HB.out|apply zD|apply zC|apply zE)|exact HB.out)) hb);have n1_:=zA (hbox);have n2_:=zA ((by rw [hg];exact (zG (by repeat (first|(with_reducible first|exact HB.out|apply zD|apply zC|apply zE)|exact HB.out))):w.heap.size ≤ gb385));have n3_:=zA ((by rw [hg];exact (zG (by repeat (first|(with_reducible first|exact HB.out|apply zD|apply zC|apply zE)|exact HB.out))):w.heap.size ≤ gb385));clear HB;have HB:=n0_;have BK385:=n1_;have GW385:=n2_;have GE385:=n3_;clear n0_ n1_ n2_ n3_;clear hb hbox hg;have hcz21_0:w20.cell? ⟨gb385,0,none⟩ = some (.slice A0_0 l0_0.length c0_0):=(zI BK385.out 0).trans rfl;have hcz21_1:w20.cell? ⟨gb385,1,none⟩ = some (.slice A0_1 l0_1.length c0_1):=(zI BK385.out 1).trans rfl;have hfz21_0:=zJ BK385.out 0;have hfz21_1:=zJ BK385.out 1)|((with_reducible refine zU (f:=20) rfl ?_);refine goesL_ (some 13) rfl rfl Tryd.func20 (by kernel_rfl) rfl #[.agg #[.slice A0_0 l0_0.length c0_0,.slice A0_1 l0_1.length c0_1]] rfl (by (try simp only [List.map_toArray,List.map_cons,List.map_nil]);first|done|rfl|(simp only [List.length_drop,List.length_take];rfl)) ?_;(with_reducible refine (foretellref_StateCount.calls k _ _ l0_0 _ _ l0_1 t386 t387 _ ?side1 ?side2 ?side3 ?side4 A3.out).mono ?_);(case side1=>repeat (first|exact (zT HR0_0.out HB.out)|(with_reducible refine Kd.C_alloc ?_ _)|(with_reducible refine Kd.C_drewN ?_ _)|(with_reducible refine Kd.C_drew ?_)));(case side2=>exact HC0_0.out);(case side3=>repeat (first|exact (zT HR0_1.out HB.out)|(with_reducible refine Kd.C_alloc ?_ _)|(with_reducible refine Kd.C_drewN ?_ _)|(with_reducible refine Kd.C_drew ?_)));(case side4=>exact HC0_1.out);rintro e w22 ⟨rfl,hb⟩;refine ⟨_,rfl,?_⟩;have n0_:=zA (zN (g:=gb385) (o:=.cells #[.slice A0_0 l0_0.length c0_0,.slice A0_1 l0_1.length c0_1] 25 (0,0)) (by (with_reducible repeat (first|refine zL ?_ _|refine zM ?_|refine zK ?_ _));exact BK385.out) hb);have n1_:=zA (zH (by repeat (first|(with_reducible first|exact HB.out|apply zD|apply zC|apply zE|refine zF ?_ GE385.out)|exact HB.out)) hb);clear BK385;clear HB;have BK385:=n0_;have HB:=n1_;clear n0_ n1_;(try clear hb);(try clear hb2);(try clear hk);(try clear hi))|((with_reducible refine zU (f:=56) rfl ?_);refine goesL_ (some 22) rfl rfl Tryd.func56 (by kernel_rfl) rfl #[.int .i64 a1,.int .i64 0,.int .i64 (wrap64 (t386 - 1))] rfl (by (try simp only [List.map_toArray,List.map_cons,List.map_nil]);first|done|rfl|(simp only [List.length_drop,List.length_take];rfl)) ?_;(with_reducible refine (foretellref_In.calls a1 0 (wrap64 (t386 - 1)) false _ A5.out).mono ?_);rintro e w' ⟨rfl,⟨nd,rfl⟩⟩;refine ⟨_,rfl,?_⟩))
   go_ret2
   exact ⟨_,by first|rfl|(simp [errW_none,errW_some] <;> rfl)|(simp [*,errW_none,errW_some] <;> rfl),by first|exact Kd.R_nil _ _ _ _ _|exact Kd.N_nil _ _ _ _ _|exact Kd.V_nil _ _ _ _ _|exact Kd.Q_nil _ _ _ _ _|exact Kd.S_nil _ _ _ _ _,by repeat (first|(with_reducible first|exact HB.out|apply zD|apply zC|apply zE|refine zF ?_ GE385.out)|exact HB.out)⟩
 ·rw [if_neg c4] at H
  have c4b0:(t387 == 0) = false:=beq_eq_false_iff_ne.mpr c4
  have c4b1:(t387 != 0) = true:=bne_iff_ne.mpr c4
  simp only [Option.some.injEq,Prod.mk.injEq] at H
  obtain ⟨rfl,rfl⟩:=H
  go_enter Tryd.func31,Tryd.ntmps31
  go_wp2_with (first|((with_reducible refine zV (N:=2) rfl ?_);refine zW ?hg (N:=2) ?hd (cs:=#[.slice A0_0 l0_0.length c0_0,.slice A0_1 l0_1.length c0_1]) (t:=25) ?hr ?_;(case hd=>rfl);(case hg=>rfl);(case hr=>first|(go_simp;done)|(go_simp;rfl));intro gb385 hg w23 hbox hb;have n0_:=zA (zH (by repeat (first|(with_reducible first|exact HB.out|apply zD|apply zC|apply zE)|exact HB.out)) hb);have n1_:=zA (hbox);have n2_:=zA ((by rw [hg];exact (zG (by repeat (first|(with_reducible first|exact HB.out|apply zD|apply zC|apply zE)|exact HB.out))):w.heap.size ≤ gb385));have n3_:=zA ((by rw [hg];exact (zG (by repeat (first|(with_reducible first|exact HB.out|apply zD|apply zC|apply zE)|exact HB.out))):w.heap.size ≤ gb385));clear HB;have HB:=n0_;have BK385:=n1_;have GW385:=n2_;have GE385:=n3_;clear n0_ n1_ n2_ n3_;clear hb hbox hg;have hcz24_0:w23.cell? ⟨gb385,0,none⟩ = some (.slice A0_0 l0_0.length c0_0):=(zI BK385.out 0).trans rfl;have hcz24_1:w23.cell? ⟨gb385,1,none⟩ = some (.slice A0_1 l0_1.length c0_1):=(zI BK385.out 1).trans rfl;have hfz24_0:=zJ BK385.out 0;have hfz24_1:=zJ BK385.out 1)|((with_reducible refine zU (f:=20) rfl ?_);refine goesL_ (some 13) rfl rfl Tryd.func20 (by kernel_rfl) rfl #[.agg #[.slice A0_0 l0_0.length c0_0,.slice A0_1 l0_1.length c0_1]] rfl (by (try simp only [List.map_toArray,List.map_cons,List.map_nil]);first|done|rfl|(simp only [List.length_drop,List.length_take];rfl)) ?_;(with_reducible refine (foretellref_StateCount.calls k _ _ l0_0 _ _ l0_1 t386 t387 _ ?side1 ?side2 ?side3 ?side4 A3.out).mono ?_);(case side1=>repeat (first|exact (zT HR0_0.out HB.out)|(with_reducible refine Kd.C_alloc ?_ _)|(with_reducible refine Kd.C_drewN ?_ _)|(with_reducible refine Kd.C_drew ?_)));(case side2=>exact HC0_0.out);(case side3=>repeat (first|exact (zT HR0_1.out HB.out)|(with_reducible refine Kd.C_alloc ?_ _)|(with_reducible refine Kd.C_drewN ?_ _)|(with_reducible refine Kd.C_drew ?_)));(case side4=>exact HC0_1.out);rintro e w25 ⟨rfl,hb⟩;refine ⟨_,rfl,?_⟩;have n0_:=zA (zN (g:=gb385) (o:=.cells #[.slice A0_0 l0_0.length c0_0,.slice A0_1 l0_1.length c0_1] 25 (0,0)) (by (with_reducible repeat (first|refine zL ?_ _|refine zM ?_|refine zK ?_ _));exact BK385.out) hb);have n1_:=zA (zH (by repeat (first|(with_reducible first|exact HB.out|apply zD|apply zC|apply zE|refine zF ?_ GE385.out)|exact HB.out)) hb);clear BK385;clear HB;have BK385:=n0_;have HB:=n1_;clear n0_ n1_;(try clear hb);(try clear hb2);(try clear hk);(try clear hi)))
  go_ret2
  exact ⟨_,by first|rfl|(simp [errW_none,errW_some] <;> rfl)|(simp [*,errW_none,errW_some] <;> rfl),by first|exact Kd.R_nil _ _ _ _ _|exact Kd.N_nil _ _ _ _ _|exact Kd.V_nil _ _ _ _ _|exact Kd.Q_nil _ _ _ _ _|exact Kd.S_nil _ _ _ _ _,by repeat (first|(with_reducible first|exact HB.out|apply zD|apply zC|apply zE|refine zF ?_ GE385.out)|exact HB.out)⟩
 
/-! ### foretelllaw_ModelValues: function 8 -/
def foretelllaw_ModelValues.f (k:Nat) (l0_0:List (S74)) (l0_1:List (S68)) (a1:Int):Option (Bool):=(foretelllaw_models.f k l0_0 l0_1).bind fun bt395=>((model_Values.f k bt395.1 bt395.2 a1).bind fun bt401=>((foretellref_ValuesOf.f k l0_0 l0_1 a1).bind fun bt405=>(if bt401.2 = bt405.2 then ((foretelllaw_sameInts.f k bt401.1 bt405.1).bind fun t409=>(some t409)) else (some false))))
theorem foretelllaw_ModelValues.mono:∀ a0 a1 a2 k,LeO (foretelllaw_ModelValues.f k a0 a1 a2) (foretelllaw_ModelValues.f (k + 1) a0 a1 a2):=by
 intro a0 a1 a2 k
 unfold foretelllaw_ModelValues.f
 repeat' first
   | (with_reducible exact foretelllaw_models.mono _ _ _)
   | (with_reducible exact foretelllaw_sameInts.mono _ _ _)
   | (with_reducible exact foretellref_ValuesOf.mono _ _ _ _)
   | (with_reducible exact model_Values.mono _ _ _ _)
   | (with_reducible exact LeO.refl _)
   | (with_reducible exact LeO.none _)
   | (with_reducible refine LeO.ite ?_ ?_)
   | (with_reducible refine LeO.bind ?_ (fun _=>?_))
   | exact foretelllaw_models.mono _ _ _
   | exact foretelllaw_sameInts.mono _ _ _
   | exact foretellref_ValuesOf.mono _ _ _ _
   | exact model_Values.mono _ _ _ _
   | exact LeO.none _
   | refine LeO.ite ?_ ?_
   | refine LeO.bind ?_ (fun _=>?_)
set_option maxHeartbeats 8000000 in
set_option maxRecDepth 100000 in
theorem foretelllaw_ModelValues.calls (k:Nat) (A0_0:Option Addr) (c0_0:Nat) (l0_0:List (S74)) (A0_1:Option Addr) (c0_1:Nat) (l0_1:List (S68)) (a1:Int) (r:Bool) (w:World) (hr0_0:Kd.C k74 w A0_0 l0_0.length l0_0) (hc0_0:l0_0.length ≤ c0_0) (hr0_1:Kd.C k68 w A0_1 l0_1.length l0_1) (hc0_1:l0_1.length ≤ c0_1) (hL:LaidG w) (h:foretelllaw_ModelValues.f k l0_0 l0_1 a1 = some r) :
  Calls Tryd.prog 8 #[.agg #[.slice A0_0 l0_0.length c0_0,.slice A0_1 l0_1.length c0_1],.int .i64 a1] w fun e w'=>e = .returned (.bool r)∧Below w.heap.size w w':=by
 have HLd:=zA hL
 clear hL
 have hu25:=Tryd.underlying25
 have HR0_0:=zA hr0_0
 have HC0_0:=zA hc0_0
 clear hr0_0 hc0_0
 have HR0_1:=zA hr0_1
 have HC0_1:=zA hc0_1
 clear hr0_1 hc0_1
 have HB:=zA (Below.refl w.heap.size w)
 have H:((foretelllaw_models.f k l0_0 l0_1).bind fun bt395=>((model_Values.f k bt395.1 bt395.2 a1).bind fun bt401=>((foretellref_ValuesOf.f k l0_0 l0_1 a1).bind fun bt405=>(if bt401.2 = bt405.2 then ((foretelllaw_sameInts.f k bt401.1 bt405.1).bind fun t409=>(some t409)) else (some false))))) = some r:=h
 clear h
 replace H:=Option.bind_eq_some_iff.mp H
 obtain ⟨⟨t395,t398⟩,A30,H⟩:=H
 replace H:((model_Values.f k t395 t398 a1).bind fun bt401=>((foretellref_ValuesOf.f k l0_0 l0_1 a1).bind fun bt405=>(if bt401.2 = bt405.2 then ((foretelllaw_sameInts.f k bt401.1 bt405.1).bind fun t409=>(some t409)) else (some false)))) = some r:=H
 have A3:=zA A30
 clear A30
 replace H:=Option.bind_eq_some_iff.mp H
 obtain ⟨⟨t401,t404⟩,A40,H⟩:=H
 replace H:((foretellref_ValuesOf.f k l0_0 l0_1 a1).bind fun bt405=>(if t404 = bt405.2 then ((foretelllaw_sameInts.f k t401 bt405.1).bind fun t409=>(some t409)) else (some false))) = some r:=H
 have A4:=zA A40
 clear A40
 replace H:=Option.bind_eq_some_iff.mp H
 obtain ⟨⟨t405,t408⟩,A50,H⟩:=H
 replace H:(if t404 = t408 then ((foretelllaw_sameInts.f k t401 t405).bind fun t409=>(some t409)) else (some false)) = some r:=H
 have A5:=zA A50
 clear A50
 by_cases c6:t404 = t408
 ·rw [if_pos c6] at H
  have c6b0:(t404 == t408) = true:=beq_iff_eq.mpr c6
  have c6b1:(t404 != t408) = false:=bne_eq_false_iff_eq.mpr c6
  clear c6
  replace H:=Option.bind_eq_some_iff.mp H
  obtain ⟨t409,A70,H⟩:=H
  replace H:(some t409) = some r:=H
  have A7:=zA A70
  clear A70
  obtain rfl:=Option.some.inj H
  go_enter Tryd.func8,Tryd.ntmps8
  go_wp2_with (first|((with_reducible refine zV (N:=2) rfl ?_);refine zW ?hg (N:=2) ?hd (cs:=#[.slice A0_0 l0_0.length c0_0,.slice A0_1 l0_1.length c0_1]) (t:=25) ?hr ?_;(case hd=>rfl);(case hg=>rfl);(case hr=>first|(go_simp;done)|(go_simp;rfl));intro gb394 hg w8 hbox hb;have n0_:=zA (zH (by repeat (first|(with_reducible first|exact HB.out|apply zD|apply zC|apply zE)|exact HB.out)) hb);have n1_:=zA (hbox);have n2_:=zA ((by rw [hg];exact (zG (by repeat (first|(with_reducible first|exact HB.out|apply zD|apply zC|apply zE)|exact HB.out))):w.heap.size ≤ gb394));have n3_:=zA ((by rw [hg];exact (zG (by repeat (first|(with_reducible first|exact HB.out|apply zD|apply zC|apply zE)|exact HB.out))):w.heap.size ≤ gb394));clear HB;have HB:=n0_;have BK394:=n1_;have GW394:=n2_;have GE394:=n3_;clear n0_ n1_ n2_ n3_;clear hb hbox hg;have hcz9_0:w8.cell? ⟨gb394,0,none⟩ = some (.slice A0_0 l0_0.length c0_0):=(zI BK394.out 0).trans rfl;have hcz9_1:w8.cell? ⟨gb394,1,none⟩ = some (.slice A0_1 l0_1.length c0_1):=(zI BK394.out 1).trans rfl;have hfz9_0:=zJ BK394.out 0;have hfz9_1:=zJ BK394.out 1)|((with_reducible refine zU (f:=15) rfl ?_);refine goesL_ (some 11) rfl rfl Tryd.func15 (by kernel_rfl) rfl #[.agg #[.slice A0_0 l0_0.length c0_0,.slice A0_1 l0_1.length c0_1]] rfl (by (try simp only [List.map_toArray,List.map_cons,List.map_nil]);first|done|rfl|(simp only [List.length_drop,List.length_take];rfl)) ?_;(with_reducible refine (foretelllaw_models.calls k _ _ l0_0 _ _ l0_1 t395 t398 _ ?side1 ?side2 ?side3 ?side4 A3.out).mono ?_);(case side1=>repeat (first|exact (zT HR0_0.out HB.out)|(with_reducible refine Kd.C_alloc ?_ _)|(with_reducible refine Kd.C_drewN ?_ _)|(with_reducible refine Kd.C_drew ?_)));(case side2=>exact HC0_0.out);(case side3=>repeat (first|exact (zT HR0_1.out HB.out)|(with_reducible refine Kd.C_alloc ?_ _)|(with_reducible refine Kd.C_drewN ?_ _)|(with_reducible refine Kd.C_drew ?_)));(case side4=>exact HC0_1.out);rintro e w10 ⟨v396,v399,rfl,ho0,ho1,hb⟩;refine ⟨_,rfl,?_⟩;have n0_:=zA (Kd.R_lower ho0 (zG (by repeat (first|(with_reducible first|exact HB.out|apply zD|apply zC|apply zE|refine zF ?_ GE394.out)|exact HB.out))));have n1_:=zA (Kd.R_lower ho1 (zG (by repeat (first|(with_reducible first|exact HB.out|apply zD|apply zC|apply zE|refine zF ?_ GE394.out)|exact HB.out))));have n2_:=zA (zN (g:=gb394) (o:=.cells #[.slice A0_0 l0_0.length c0_0,.slice A0_1 l0_1.length c0_1] 25 (0,0)) (by (with_reducible repeat (first|refine zL ?_ _|refine zM ?_|refine zK ?_ _));exact BK394.out) hb);have n3_:=zA (zH (by repeat (first|(with_reducible first|exact HB.out|apply zD|apply zC|apply zE|refine zF ?_ GE394.out)|exact HB.out)) hb);clear BK394;clear HB;have HO397:=n0_;have HO400:=n1_;have BK394:=n2_;have HB:=n3_;clear n0_ n1_ n2_ n3_;(try clear hb);(try clear hb2);(try clear hk);(try clear hi);(try clear ho0);(try clear ho1);obtain ⟨Ao11,co11,eo11⟩:=Kd.R_slice HO397.out;subst eo11;obtain ⟨Ao12,co12,eo12⟩:=Kd.R_slice HO400.out;subst eo12)|((with_reducible refine zU (f:=30) rfl ?_);refine goesL_ (some 13) rfl rfl Tryd.func30 (by kernel_rfl) rfl #[.agg #[.slice Ao11 t395.length co11,.slice Ao12 t398.length co12],.int .i64 a1] rfl (by (try simp only [List.map_toArray,List.map_cons,List.map_nil]);first|done|rfl|(simp only [List.length_drop,List.length_take];rfl)) ?_;(with_reducible refine (model_Values.calls k _ _ t395 _ _ t398 a1 t401 t404 _ ?side1 ?side2 ?side3 ?side4 ?side5 A4.out).mono ?_);(case side1=>repeat (first|exact (Kd.R_reads' HO397.out).2.2|(with_reducible refine Kd.C_alloc ?_ _)|(with_reducible refine Kd.C_drewN ?_ _)|(with_reducible refine Kd.C_drew ?_)));(case side2=>exact (Kd.R_reads' HO397.out).2.1);(case side3=>repeat (first|exact (Kd.R_reads' HO400.out).2.2|(with_reducible refine Kd.C_alloc ?_ _)|(with_reducible refine Kd.C_drewN ?_ _)|(with_reducible refine Kd.C_drew ?_)));(case side4=>exact (Kd.R_reads' HO400.out).2.1);(case side5=>first|exact LaidG.below HLd.out (by repeat (first|(with_reducible first|exact HB.out|apply zD|apply zC|apply zE|refine zF ?_ GE394.out)|exact HB.out))|(refine LaidG.below HLd.out ?_;repeat (with_reducible first|exact HB.out|exact Below.refl _ _|apply zD|apply zC|apply zE);done));rintro e w13 ⟨v402,rfl,ho0,hb⟩;refine ⟨_,rfl,?_⟩;have n0_:=zA (Kd.R_below (by (with_reducible repeat (first|apply Kd.R_alloc|apply Kd.R_drewN|apply Kd.R_drew));exact HO397.out) hb);have n1_:=zA (Kd.R_below (by (with_reducible repeat (first|apply Kd.R_alloc|apply Kd.R_drewN|apply Kd.R_drew));exact HO400.out) hb);have n2_:=zA (Kd.R_lower ho0 (zG (by repeat (first|(with_reducible first|exact HB.out|apply zD|apply zC|apply zE|refine zF ?_ GE394.out)|exact HB.out))));have n3_:=zA (zN (g:=gb394) (o:=.cells #[.slice A0_0 l0_0.length c0_0,.slice A0_1 l0_1.length c0_1] 25 (0,0)) (by (with_reducible repeat (first|refine zL ?_ _|refine zM ?_|refine zK ?_ _));exact BK394.out) hb);have n4_:=zA (zH (by repeat (first|(with_reducible first|exact HB.out|apply zD|apply zC|apply zE|refine zF ?_ GE394.out)|exact HB.out)) hb);clear HO397;clear HO400;clear BK394;clear HB;have HO397:=n0_;have HO400:=n1_;have HO403:=n2_;have BK394:=n3_;have HB:=n4_;clear n0_ n1_ n2_ n3_ n4_;(try clear hb);(try clear hb2);(try clear hk);(try clear hi);(try clear ho0);have hcz14_0:w13.cell? ⟨gb394,0,none⟩ = some (.slice A0_0 l0_0.length c0_0):=(zI BK394.out 0).trans rfl;have hcz14_1:w13.cell? ⟨gb394,1,none⟩ = some (.slice A0_1 l0_1.length c0_1):=(zI BK394.out 1).trans rfl;have hfz14_0:=zJ BK394.out 0;have hfz14_1:=zJ BK394.out 1)|((with_reducible refine zU (f:=31) rfl ?_);refine goesL_ (some 19) rfl rfl Tryd.func31 (by kernel_rfl) rfl #[.agg #[.slice A0_0 l0_0.length c0_0,.slice A0_1 l0_1.length c0_1],.int .i64 a1] rfl (by (try simp only [List.map_toArray,List.map_cons,List.map_nil]);first|done|rfl|(simp only [List.length_drop,List.length_take];rfl)) ?_;(with_reducible refine (foretellref_ValuesOf.calls k _ _ l0_0 _ _ l0_1 a1 t405 t408 _ ?side1 ?side2 ?side3 ?side4 A5.out).mono ?_);(case side1=>repeat (first|exact (zT HR0_0.out HB.out)|(with_reducible refine Kd.C_alloc ?_ _)|(with_reducible refine Kd.C_drewN ?_ _)|(with_reducible refine Kd.C_drew ?_)));(case side2=>exact HC0_0.out);(case side3=>repeat (first|exact (zT HR0_1.out HB.out)|(with_reducible refine Kd.C_alloc ?_ _)|(with_reducible refine Kd.C_drewN ?_ _)|(with_reducible refine Kd.C_drew ?_)));(case side4=>exact HC0_1.out);rintro e w15 ⟨v406,rfl,ho0,hb⟩;refine ⟨_,rfl,?_⟩;have n0_:=zA (Kd.R_below (by (with_reducible repeat (first|apply Kd.R_alloc|apply Kd.R_drewN|apply Kd.R_drew));exact HO397.out) hb);have n1_:=zA (Kd.R_below (by (with_reducible repeat (first|apply Kd.R_alloc|apply Kd.R_drewN|apply Kd.R_drew));exact HO400.out) hb);have n2_:=zA (Kd.R_elder' (by (with_reducible repeat (first|apply Kd.R_alloc|apply Kd.R_drewN|apply Kd.R_drew));exact HO403.out) (Kd.R_base ho0) hb);have n3_:=zA (Kd.R_lower (Kd.R_new' ho0 (Kd.R_lt (by (with_reducible repeat (first|apply Kd.R_alloc|apply Kd.R_drewN|apply Kd.R_drew));exact HO403.out))) (zG (by repeat (first|(with_reducible first|exact HB.out|apply zD|apply zC|apply zE|refine zF ?_ GE394.out)|exact HB.out))));have n4_:=zA (zN (g:=gb394) (o:=.cells #[.slice A0_0 l0_0.length c0_0,.slice A0_1 l0_1.length c0_1] 25 (0,0)) (by (with_reducible repeat (first|refine zL ?_ _|refine zM ?_|refine zK ?_ _));exact BK394.out) hb);have n5_:=zA (zH (by repeat (first|(with_reducible first|exact HB.out|apply zD|apply zC|apply zE|refine zF ?_ GE394.out)|exact HB.out)) hb);clear HO397;clear HO400;clear HO403;clear BK394;clear HB;have HO397:=n0_;have HO400:=n1_;have HO403:=n2_;have HO407:=n3_;have BK394:=n4_;have HB:=n5_;clear n0_ n1_ n2_ n3_ n4_ n5_;(try clear hb);(try clear hb2);(try clear hk);(try clear hi);(try clear ho0);obtain ⟨Ao16,co16,eo16⟩:=Kd.R_slice HO403.out;subst eo16;obtain ⟨Ao17,co17,eo17⟩:=Kd.R_slice HO407.out;subst eo17)|(go_at_call 27;(with_reducible refine (foretelllaw_sameInts.calls k _ _ t401 _ _ t405 t409 _ ?side1 ?side2 ?side3 ?side4 A7.out).mono ?_);(case side1=>repeat (first|exact (Kd.R_reads' HO403.out).2.2|(with_reducible refine Kd.C_alloc ?_ _)|(with_reducible refine Kd.C_drewN ?_ _)|(with_reducible refine Kd.C_drew ?_)));(case side2=>exact (Kd.R_reads' HO403.out).2.1);(case side3=>repeat (first|exact (Kd.R_reads' HO407.out).2.2|(with_reducible refine Kd.C_alloc ?_ _)|(with_reducible refine Kd.C_drewN ?_ _)|(with_reducible refine Kd.C_drew ?_)));(case side4=>exact (Kd.R_reads' HO407.out).2.1);rintro e w' ⟨rfl,⟨nd,rfl⟩⟩))
  go_ret
  exact ⟨by first|rfl|(simp [errW_none,errW_some] <;> rfl)|(simp [*,errW_none,errW_some] <;> rfl),by repeat (first|(with_reducible first|exact HB.out|apply zD|apply zC|apply zE|refine zF ?_ GE394.out)|exact HB.out)⟩
 ·rw [if_neg c6] at H
  have c6b0:(t404 == t408) = false:=beq_eq_false_iff_ne.mpr c6
  have c6b1:(t404 != t408) = true:=bne_iff_ne.mpr c6
  obtain rfl:=Option.some.inj H
  go_enter Tryd.func8,Tryd.ntmps8
  go_wp2_with (first|((with_reducible refine zV (N:=2) rfl ?_);refine zW ?hg (N:=2) ?hd (cs:=#[.slice A0_0 l0_0.length c0_0,.slice A0_1 l0_1.length c0_1]) (t:=25) ?hr ?_;(case hd=>rfl);(case hg=>rfl);(case hr=>first|(go_simp;done)|(go_simp;rfl));intro gb394 hg w18 hbox hb;have n0_:=zA (zH (by repeat (first|(with_reducible first|exact HB.out|apply zD|apply zC|apply zE)|exact HB.out)) hb);have n1_:=zA (hbox);have n2_:=zA ((by rw [hg];exact (zG (by repeat (first|(with_reducible first|exact HB.out|apply zD|apply zC|apply zE)|exact HB.out))):w.heap.size ≤ gb394));have n3_:=zA ((by rw [hg];exact (zG (by repeat (first|(with_reducible first|exact HB.out|apply zD|apply zC|apply zE)|exact HB.out))):w.heap.size ≤ gb394));clear HB;have HB:=n0_;have BK394:=n1_;have GW394:=n2_;have GE394:=n3_;clear n0_ n1_ n2_ n3_;clear hb hbox hg;have hcz19_0:w18.cell? ⟨gb394,0,none⟩ = some (.slice A0_0 l0_0.length c0_0):=(zI BK394.out 0).trans rfl;have hcz19_1:w18.cell? ⟨gb394,1,none⟩ = some (.slice A0_1 l0_1.length c0_1):=(zI BK394.out 1).trans rfl;have hfz19_0:=zJ BK394.out 0;have hfz19_1:=zJ BK394.out 1)|((with_reducible refine zU (f:=15) rfl ?_);refine goesL_ (some 11) rfl rfl Tryd.func15 (by kernel_rfl) rfl #[.agg #[.slice A0_0 l0_0.length c0_0,.slice A0_1 l0_1.length c0_1]] rfl (by (try simp only [List.map_toArray,List.map_cons,List.map_nil]);first|done|rfl|(simp only [List.length_drop,List.length_take];rfl)) ?_;(with_reducible refine (foretelllaw_models.calls k _ _ l0_0 _ _ l0_1 t395 t398 _ ?side1 ?side2 ?side3 ?side4 A3.out).mono ?_);(case side1=>repeat (first|exact (zT HR0_0.out HB.out)|(with_reducible refine Kd.C_alloc ?_ _)|(with_reducible refine Kd.C_drewN ?_ _)|(with_reducible refine Kd.C_drew ?_)));(case side2=>exact HC0_0.out);(case side3=>repeat (first|exact (zT HR0_1.out HB.out)|(with_reducible refine Kd.C_alloc ?_ _)|(with_reducible refine Kd.C_drewN ?_ _)|(with_reducible refine Kd.C_drew ?_)));(case side4=>exact HC0_1.out);rintro e w20 ⟨v396,v399,rfl,ho0,ho1,hb⟩;refine ⟨_,rfl,?_⟩;have n0_:=zA (Kd.R_lower ho0 (zG (by repeat (first|(with_reducible first|exact HB.out|apply zD|apply zC|apply zE|refine zF ?_ GE394.out)|exact HB.out))));have n1_:=zA (Kd.R_lower ho1 (zG (by repeat (first|(with_reducible first|exact HB.out|apply zD|apply zC|apply zE|refine zF ?_ GE394.out)|exact HB.out))));have n2_:=zA (zN (g:=gb394) (o:=.cells #[.slice A0_0 l0_0.length c0_0,.slice A0_1 l0_1.length c0_1] 25 (0,0)) (by (with_reducible repeat (first|refine zL ?_ _|refine zM ?_|refine zK ?_ _));exact BK394.out) hb);have n3_:=zA (zH (by repeat (first|(with_reducible first|exact HB.out|apply zD|apply zC|apply zE|refine zF ?_ GE394.out)|exact HB.out)) hb);clear BK394;clear HB;have HO397:=n0_;have HO400:=n1_;have BK394:=n2_;have HB:=n3_;clear n0_ n1_ n2_ n3_;(try clear hb);(try clear hb2);(try clear hk);(try clear hi);(try clear ho0);(try clear ho1);obtain ⟨Ao21,co21,eo21⟩:=Kd.R_slice HO397.out;subst eo21;obtain ⟨Ao22,co22,eo22⟩:=Kd.R_slice HO400.out;subst eo22)|((with_reducible refine zU (f:=30) rfl ?_);refine goesL_ (some 13) rfl rfl Tryd.func30 (by kernel_rfl) rfl #[.agg #[.slice Ao21 t395.length co21,.slice Ao22 t398.length co22],.int .i64 a1] rfl (by (try simp only [List.map_toArray,List.map_cons,List.map_nil]);first|done|rfl|(simp only [List.length_drop,List.length_take];rfl)) ?_;(with_reducible refine (model_Values.calls k _ _ t395 _ _ t398 a1 t401 t404 _ ?side1 ?side2 ?side3 ?side4 ?side5 A4.out).mono ?_);(case side1=>repeat (first|exact (Kd.R_reads' HO397.out).2.2|(with_reducible refine Kd.C_alloc ?_ _)|(with_reducible refine Kd.C_drewN ?_ _)|(with_reducible refine Kd.C_drew ?_)));(case side2=>exact (Kd.R_reads' HO397.out).2.1);(case side3=>repeat (first|exact (Kd.R_reads' HO400.out).2.2|(with_reducible refine Kd.C_alloc ?_ _)|(with_reducible refine Kd.C_drewN ?_ _)|(with_reducible refine Kd.C_drew ?_)));(case side4=>exact (Kd.R_reads' HO400.out).2.1);(case side5=>first|exact LaidG.below HLd.out (by repeat (first|(with_reducible first|exact HB.out|apply zD|apply zC|apply zE|refine zF ?_ GE394.out)|exact HB.out))|(refine LaidG.below HLd.out ?_;repeat (with_reducible first|exact HB.out|exact Below.refl _ _|apply zD|apply zC|apply zE);done));rintro e w23 ⟨v402,rfl,ho0,hb⟩;refine ⟨_,rfl,?_⟩;have n0_:=zA (Kd.R_below (by (with_reducible repeat (first|apply Kd.R_alloc|apply Kd.R_drewN|apply Kd.R_drew));exact HO397.out) hb);have n1_:=zA (Kd.R_below (by (with_reducible repeat (first|apply Kd.R_alloc|apply Kd.R_drewN|apply Kd.R_drew));exact HO400.out) hb);have n2_:=zA (Kd.R_lower ho0 (zG (by repeat (first|(with_reducible first|exact HB.out|apply zD|apply zC|apply zE|refine zF ?_ GE394.out)|exact HB.out))));have n3_:=zA (zN (g:=gb394) (o:=.cells #[.slice A0_0 l0_0.length c0_0,.slice A0_1 l0_1.length c0_1] 25 (0,0)) (by (with_reducible repeat (first|refine zL ?_ _|refine zM ?_|refine zK ?_ _));exact BK394.out) hb);have n4_:=zA (zH (by repeat (first|(with_reducible first|exact HB.out|apply zD|apply zC|apply zE|refine zF ?_ GE394.out)|exact HB.out)) hb);clear HO397;clear HO400;clear BK394;clear HB;have HO397:=n0_;have HO400:=n1_;have HO403:=n2_;have BK394:=n3_;have HB:=n4_;clear n0_ n1_ n2_ n3_ n4_;(try clear hb);(try clear hb2);(try clear hk);(try clear hi);(try clear ho0);have hcz24_0:w23.cell? ⟨gb394,0,none⟩ = some (.slice A0_0 l0_0.length c0_0):=(zI BK394.out 0).trans rfl;have hcz24_1:w23.cell? ⟨gb394,1,none⟩ = some (.slice A0_1 l0_1.length c0_1):=(zI BK394.out 1).trans rfl;have hfz24_0:=zJ BK394.out 0;have hfz24_1:=zJ BK394.out 1)|((with_reducible refine zU (f:=31) rfl ?_);refine goesL_ (some 19) rfl rfl Tryd.func31 (by kernel_rfl) rfl #[.agg #[.slice A0_0 l0_0.length c0_0,.slice A0_1 l0_1.length c0_1],.int .i64 a1] rfl (by (try simp only [List.map_toArray,List.map_cons,List.map_nil]);first|done|rfl|(simp only [List.length_drop,List.length_take];rfl)) ?_;(with_reducible refine (foretellref_ValuesOf.calls k _ _ l0_0 _ _ l0_1 a1 t405 t408 _ ?side1 ?side2 ?side3 ?side4 A5.out).mono ?_);(case side1=>repeat (first|exact (zT HR0_0.out HB.out)|(with_reducible refine Kd.C_alloc ?_ _)|(with_reducible refine Kd.C_drewN ?_ _)|(with_reducible refine Kd.C_drew ?_)));(case side2=>exact HC0_0.out);(case side3=>repeat (first|exact (zT HR0_1.out HB.out)|(with_reducible refine Kd.C_alloc ?_ _)|(with_reducible refine Kd.C_drewN ?_ _)|(with_reducible refine Kd.C_drew ?_)));(case side4=>exact HC0_1.out);rintro e w25 ⟨v406,rfl,ho0,hb⟩;refine ⟨_,rfl,?_⟩;have n0_:=zA (Kd.R_below (by (with_reducible repeat (first|apply Kd.R_alloc|apply Kd.R_drewN|apply Kd.R_drew));exact HO397.out) hb);have n1_:=zA (Kd.R_below (by (with_reducible repeat (first|apply Kd.R_alloc|apply Kd.R_drewN|apply Kd.R_drew));exact HO400.out) hb);have n2_:=zA (Kd.R_elder' (by (with_reducible repeat (first|apply Kd.R_alloc|apply Kd.R_drewN|apply Kd.R_drew));exact HO403.out) (Kd.R_base ho0) hb);have n3_:=zA (Kd.R_lower (Kd.R_new' ho0 (Kd.R_lt (by (with_reducible repeat (first|apply Kd.R_alloc|apply Kd.R_drewN|apply Kd.R_drew));exact HO403.out))) (zG (by repeat (first|(with_reducible first|exact HB.out|apply zD|apply zC|apply zE|refine zF ?_ GE394.out)|exact HB.out))));have n4_:=zA (zN (g:=gb394) (o:=.cells #[.slice A0_0 l0_0.length c0_0,.slice A0_1 l0_1.length c0_1] 25 (0,0)) (by (with_reducible repeat (first|refine zL ?_ _|refine zM ?_|refine zK ?_ _));exact BK394.out) hb);have n5_:=zA (zH (by repeat (first|(with_reducible first|exact HB.out|apply zD|apply zC|apply zE|refine zF ?_ GE394.out)|exact HB.out)) hb);clear HO397;clear HO400;clear HO403;clear BK394;clear HB;have HO397:=n0_;have HO400:=n1_;have HO403:=n2_;have HO407:=n3_;have BK394:=n4_;have HB:=n5_;clear n0_ n1_ n2_ n3_ n4_ n5_;(try clear hb);(try clear hb2);(try clear hk);(try clear hi);(try clear ho0)))
  go_ret
  exact ⟨by first|rfl|(simp [errW_none,errW_some] <;> rfl)|(simp [*,errW_none,errW_some] <;> rfl),by repeat (first|(with_reducible first|exact HB.out|apply zD|apply zC|apply zE|refine zF ?_ GE394.out)|exact HB.out)⟩
 
end Go.Proofs.YtkpddelnkjjflaaDoor.M
