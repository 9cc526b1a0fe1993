-- Cut by a program of this session (wip/prune.py) from a longer text: declarations that the law does not need are left out.
import Derived.Test.YtkpddelnkjjflaaDoorKProductChecksMx0
import Derived.Test.YtkpddelnkjjflaaDoorKProductChecksMx1
import Derived.Test.YtkpddelnkjjflaaDoorKProductChecksMx2
namespace Go.Proofs.YtkpddelnkjjflaaDoor.M
open Go.Proofs.YtkpddelnkjjflaaDoor.Al
open Go.World renaming block_lt_of_cell? → zB
open Nat renaming lt_of_lt_of_le → zS
open Option renaming bind_eq_some_iff → zb
open List renaming setIfInBounds_toArray → zX, set_cons_zero → zY, set_cons_succ → zZ
open Go.Proofs.YtkpddelnkjjflaaDoorW.PrintWords renaming pw_below_drewN → zC, below_alloc → zD, below_drew1 → zE, below_set → zF, below_size → zG, below_step → zH, blk_cell → zI, blk_frozen → zJ, blk_alloc → zK, blk_drewN → zL, blk_drew → zM, blk_below → zN, blk_put → zO, Kd.C_below → zT, gate_dst → zV, box_event → zW
open Go.RowKit Go.Proofs.YtkpddelnkjjflaaDoorW.PrintWords Go.Proofs.YtkpddelnkjjflaaDoorW.PrintLast Go.Proofs.YtkpddelnkjjflaaDoorW.PrintMore
attribute [local go_sem] max2_int min2_int max_two min_two max_three min_three max_four min_four
set_option linter.unusedVariables false
set_option linter.unusedSimpArgs false
attribute [local go_sem high] eqA74 eqA94
def foretelllaw_sameOps.l0:Nat → List (S94) → List (S94) → Int → Option (Bool)
 | 0,_,_,_=>none
 | k + 1,x0,x1,x5=>if x5 < (x0.length:Int) then (if 0 ≤ x5 then (if x5 < (x1.length:Int) then (if (!(((rd_T94 x0 x5).f0) == ((rd_T94 x1 x5).f0)) || (!(((rd_T94 x0 x5).f1) == ((rd_T94 x1 x5).f1)))) = true then (some false) else (foretelllaw_sameOps.l0 k x0 x1 (wrap64 (x5 + 1)))) else (none)) else (none)) else (some true)
def foretelllaw_sameOps.f (k:Nat) (l0:List (S94)) (l1:List (S94)):Option (Bool):=if (l0.length:Int) = (l1.length:Int) then (foretelllaw_sameOps.l0 k l0 l1 0) else (some false)
theorem foretelllaw_sameOps.mono_l:∀ k,(∀ y0 y1 y2,LeO (foretelllaw_sameOps.l0 k y0 y1 y2) (foretelllaw_sameOps.l0 (k + 1) y0 y1 y2))
 | 0=>fun _ _ _ r h=>by simp [foretelllaw_sameOps.l0] at h
 | k + 1=>by
  have ih0:=foretelllaw_sameOps.mono_l k
  ·intro y0 y1 y2
   unfold foretelllaw_sameOps.l0
   repeat' first
   | (with_reducible exact ih0 _ _ _)
   | (with_reducible exact LeO.refl _)
   | (with_reducible exact LeO.none _)
   | (with_reducible refine LeO.ite ?_ ?_)
   | (with_reducible refine LeO.bind ?_ (fun _=>?_))
   | exact ih0 _ _ _
   | exact LeO.none _
   | refine LeO.ite ?_ ?_
   | refine LeO.bind ?_ (fun _=>?_)
theorem foretelllaw_sameOps.mono:∀ a0 a1 k,LeO (foretelllaw_sameOps.f k a0 a1) (foretelllaw_sameOps.f (k + 1) a0 a1):=by
 intro a0 a1 k
 have ih0:=foretelllaw_sameOps.mono_l k
 unfold foretelllaw_sameOps.f
 repeat' first
   | (with_reducible exact ih0 _ _ _)
   | (with_reducible exact LeO.refl _)
   | (with_reducible exact LeO.none _)
   | (with_reducible refine LeO.ite ?_ ?_)
   | (with_reducible refine LeO.bind ?_ (fun _=>?_))
   | exact ih0 _ _ _
   | exact LeO.none _
   | refine LeO.ite ?_ ?_
   | refine LeO.bind ?_ (fun _=>?_)
set_option maxHeartbeats 8000000 in
set_option maxRecDepth 100000 in
theorem foretelllaw_sameOps.calls (k:Nat) (A0:Option Addr) (c0:Nat) (l0:List (S94)) (A1:Option Addr) (c1:Nat) (l1:List (S94)) (r:Bool) (w:World) (hr0:Kd.C k94 w A0 l0.length l0) (hc0:l0.length ≤ c0) (hr1:Kd.C k94 w A1 l1.length l1) (hc1:l1.length ≤ c1) (h:foretelllaw_sameOps.f k l0 l1 = some r) :
  Calls Tryd.prog 52 #[.slice A0 l0.length c0,.slice A1 l1.length c1] w fun e w'=>e = .returned (.bool r)∧Drawn0 w w':=by
 have hu94:=Tryd.underlying94
 have HR0:=zA hr0
 have HC0:=zA hc0
 clear hr0 hc0
 have HR1:=zA hr1
 have HC1:=zA hc1
 clear hr1 hc1
 have H:(if (l0.length:Int) = (l1.length:Int) then (foretelllaw_sameOps.l0 k l0 l1 0) else (some false)) = some r:=h
 clear h
 by_cases c3:(l0.length:Int) = (l1.length:Int)
 ·rw [if_pos c3] at H
  have c3b0:((l0.length:Int) == (l1.length:Int)) = true:=beq_iff_eq.mpr c3
  have c3b1:((l0.length:Int) != (l1.length:Int)) = false:=bne_eq_false_iff_eq.mpr c3
  have c3b2:(l0.length == l1.length) = true:=by first|simpa using c3|(simp at c3 ⊢;omega)
  clear c3
  have H':=zA H
  clear H
  go_enter Tryd.func52,Tryd.ntmps52
  go_wp2
  repeat (go_quiet (fail);try go_wp2)
  go_loopg [5] k (fun kq v5 w'=>∃ (x5_1:Int),v5 = .int .i64 x5_1∧Aside0 (foretelllaw_sameOps.l0 kq l0 l1 x5_1 = some r)∧Aside0 (kq ≤ k)∧Drawn0 w w')
  case atStart=>exact ⟨(0),(by first|rfl|(simp;done)|(simp [*];done)),H',⟨Nat.le_refl _⟩,by repeat (first|exact Drawn0.refl _|apply Drawn0.step)⟩
  case round =>
   clear H'
   try clear c1
   try clear p2
   try clear c3
   try clear c3b0
   try clear c3b1
   try clear c3b2
   obtain ⟨x5_1,rfl,HA,HK1,⟨m1,rfl⟩⟩:=hrel
   cases gk with
   | zero=>exact absurd HA.out (by simp [foretelllaw_sameOps.l0])
   | succ k1 =>
    have H:=HA.out
    clear HA
    simp only [foretelllaw_sameOps.l0] at H
    by_cases c4:x5_1 < (l0.length:Int)
    ·rw [if_pos c4] at H
     have c4b0:decide (x5_1 < (l0.length:Int)) = true:=zQ c4
     clear c4
     by_cases c5:0 ≤ x5_1
     ·rw [if_pos c5] at H
      have c5b0:decide (0 ≤ x5_1) = true:=zQ c5
      clear c5
      by_cases c6:x5_1 < (l1.length:Int)
      ·rw [if_pos c6] at H
       have c6b0:decide (x5_1 < (l1.length:Int)) = true:=zQ c6
       clear c6
       by_cases c7:(!(((rd_T94 l0 x5_1).f0) == ((rd_T94 l1 x5_1).f0)) || (!(((rd_T94 l0 x5_1).f1) == ((rd_T94 l1 x5_1).f1)))) = true
       ·rw [if_pos c7] at H
        have c7b0:(!(((rd_T94 l0 x5_1).f0) == ((rd_T94 l1 x5_1).f0)) || (!(((rd_T94 l0 x5_1).f1) == ((rd_T94 l1 x5_1).f1)))) = true:=c7
        clear c7
        obtain rfl:=Option.some.inj H
        have p239:0 ≤ (x5_1:Int):=zP (by assumption)
        have q239:x5_1 < (l0.length:Int):=zP (by assumption)
        obtain ⟨ad239,e239,hx239_0,hx239_1⟩:=at_T94 HR0.out x5_1 p239 q239
        cases e239
        replace p239:=eq_true p239
        replace q239:=eq_true q239
        have p240:0 ≤ (x5_1:Int):=zP (by assumption)
        have q240:x5_1 < (l1.length:Int):=zP (by assumption)
        obtain ⟨ad240,e240,hx240_0,hx240_1⟩:=at_T94 HR1.out x5_1 p240 q240
        cases e240
        replace p240:=eq_true p240
        replace q240:=eq_true q240
        go_wp2
        repeat (go_quiet (fail);try go_wp2)
        go_ret
        exact ⟨by first|rfl|(simp;done)|(simp [*];done),by repeat (first|exact Drawn0.refl _|apply Drawn0.step)⟩
       ·rw [if_neg c7] at H
        have c7b0:(!(((rd_T94 l0 x5_1).f0) == ((rd_T94 l1 x5_1).f0)) || (!(((rd_T94 l0 x5_1).f1) == ((rd_T94 l1 x5_1).f1)))) = false:=by simpa using c7
        clear c7
        have H':=zA H
        clear H
        have p239:0 ≤ (x5_1:Int):=zP (by assumption)
        have q239:x5_1 < (l0.length:Int):=zP (by assumption)
        obtain ⟨ad239,e239,hx239_0,hx239_1⟩:=at_T94 HR0.out x5_1 p239 q239
        cases e239
        replace p239:=eq_true p239
        replace q239:=eq_true q239
        have p240:0 ≤ (x5_1:Int):=zP (by assumption)
        have q240:x5_1 < (l1.length:Int):=zP (by assumption)
        obtain ⟨ad240,e240,hx240_0,hx240_1⟩:=at_T94 HR1.out x5_1 p240 q240
        cases e240
        replace p240:=eq_true p240
        replace q240:=eq_true q240
        go_wp2
        repeat (go_quiet (fail);try go_wp2)
        go_roundg k1
        case measure=>have:=HK1.out;omega
        case rel=>exact ⟨(wrap64 (x5_1 + 1)),(by first|rfl|(simp;done)|(simp [*];done)),H',⟨by have:=HK1.out;omega⟩,by repeat (first|exact Drawn0.refl _|apply Drawn0.step)⟩
      ·rw [if_neg c6] at H
       exact absurd H (by simp)
     ·rw [if_neg c5] at H
      exact absurd H (by simp)
    ·rw [if_neg c4] at H
     have c4b0:decide (x5_1 < (l0.length:Int)) = false:=zR c4
     clear c4
     obtain rfl:=Option.some.inj H
     go_wp2
     repeat (go_quiet (fail);try go_wp2)
     go_ret
     exact ⟨by first|rfl|(simp;done)|(simp [*];done),by repeat (first|exact Drawn0.refl _|apply Drawn0.step)⟩
 ·rw [if_neg c3] at H
  have c3b0:((l0.length:Int) == (l1.length:Int)) = false:=beq_eq_false_iff_ne.mpr c3
  have c3b1:((l0.length:Int) != (l1.length:Int)) = true:=bne_iff_ne.mpr c3
  have c3b2:(l0.length == l1.length) = false:=by first|simpa using c3|(simp at c3 ⊢;omega)
  obtain rfl:=Option.some.inj H
  go_enter Tryd.func52,Tryd.ntmps52
  go_wp2
  repeat (go_quiet (fail);try go_wp2)
  go_ret
  exact ⟨by first|rfl|(simp;done)|(simp [*];done),by repeat (first|exact Drawn0.refl _|apply Drawn0.step)⟩
mutual
def foretelllaw_sameModel.j0:Nat → Bool → List (S74) → List (S68) → List (S74) → List (S68) → Option (Bool)
 | 0,_,_,_,_,_=>none
 | k + 1,x25,x242000,x242001,x243000,x243001=>if x25 = true then (some false) else (foretelllaw_sameModel.l0 k 0 x242000 x242001 x243000 x243001)
def foretelllaw_sameModel.l0:Nat → Int → List (S74) → List (S68) → List (S74) → List (S68) → Option (Bool)
 | 0,_,_,_,_,_=>none
 | k + 1,x5,x242000,x242001,x243000,x243001=>if x5 < (x242000.length:Int) then (if 0 ≤ x5 then (if x5 < (x243000.length:Int) then (if (!((((rd_T74 x242000 x5).f0).toList) == (((rd_T74 x243000 x5).f0).toList)) || (!(((rd_T74 x242000 x5).f1) == ((rd_T74 x243000 x5).f1)) || (!(((rd_T74 x242000 x5).f2) == ((rd_T74 x243000 x5).f2)) || (!(((rd_T74 x242000 x5).f3) == ((rd_T74 x243000 x5).f3)))))) = true then (some false) else (foretelllaw_sameModel.l0 k (wrap64 (x5 + 1)) x242000 x242001 x243000 x243001)) else (none)) else (none)) else (foretelllaw_sameModel.l1 k 0 x242000 x242001 x243000 x243001)
def foretelllaw_sameModel.l1:Nat → Int → List (S74) → List (S68) → List (S74) → List (S68) → Option (Bool)
 | 0,_,_,_,_,_=>none
 | k + 1,x6,x242000,x242001,x243000,x243001=>if x6 < (x242001.length:Int) then (if 0 ≤ x6 then (if x6 < (x243001.length:Int) then ((foretelllaw_sameOps.f k ((rd_T68 x242001 x6).f0) ((rd_T68 x243001 x6).f0)).bind fun t249=>(if t249 = true then (foretelllaw_sameModel.j3 k x6 ((((rd_T68 x242001 x6).f1).length:Int) != (((rd_T68 x243001 x6).f1).length:Int)) x242000 x242001 x243000 x243001 ((rd_T68 x242001 x6).f0) ((rd_T68 x242001 x6).f1) ((rd_T68 x243001 x6).f0) ((rd_T68 x243001 x6).f1)) else (foretelllaw_sameModel.j3 k x6 true x242000 x242001 x243000 x243001 ((rd_T68 x242001 x6).f0) ((rd_T68 x242001 x6).f1) ((rd_T68 x243001 x6).f0) ((rd_T68 x243001 x6).f1)))) else (none)) else (none)) else (some true)
def foretelllaw_sameModel.j3:Nat → Int → Bool → List (S74) → List (S68) → List (S74) → List (S68) → List (S94) → List (S70) → List (S94) → List (S70) → Option (Bool)
 | 0,_,_,_,_,_,_,_,_,_,_=>none
 | k + 1,x6,x75,x242000,x242001,x243000,x243001,x247000,x247001,x249000,x249001=>if x75 = true then (some false) else (foretelllaw_sameModel.l2 k x6 0 x242000 x242001 x243000 x243001 x247000 x247001 x249000 x249001)
def foretelllaw_sameModel.l2:Nat → Int → Int → List (S74) → List (S68) → List (S74) → List (S68) → List (S94) → List (S70) → List (S94) → List (S70) → Option (Bool)
 | 0,_,_,_,_,_,_,_,_,_,_=>none
 | k + 1,x6,x9,x242000,x242001,x243000,x243001,x247000,x247001,x249000,x249001=>if x9 < (x247001.length:Int) then (if 0 ≤ x9 then (if x9 < (x249001.length:Int) then (if ((rd_T70 x247001 x9).f0) = ((rd_T70 x249001 x9).f0) then ((foretelllaw_sameOps.f k ((rd_T70 x247001 x9).f1) ((rd_T70 x249001 x9).f1)).bind fun t254=>(if t254 = true then (foretelllaw_sameModel.l2 k x6 (wrap64 (x9 + 1)) x242000 x242001 x243000 x243001 x247000 x247001 x249000 x249001) else (some false))) else (some false)) else (none)) else (none)) else (foretelllaw_sameModel.l1 k (wrap64 (x6 + 1)) x242000 x242001 x243000 x243001)
end
def foretelllaw_sameModel.f (k:Nat) (l0_0:List (S74)) (l0_1:List (S68)) (l1_0:List (S74)) (l1_1:List (S68)):Option (Bool):=if (l0_0.length:Int) = (l1_0.length:Int) then (foretelllaw_sameModel.j0 k ((l0_1.length:Int) != (l1_1.length:Int)) l0_0 l0_1 l1_0 l1_1) else (foretelllaw_sameModel.j0 k true l0_0 l0_1 l1_0 l1_1)
theorem foretelllaw_sameModel.mono_l:∀ k,(∀ y0 y1 y2 y3 y4,LeO (foretelllaw_sameModel.j0 k y0 y1 y2 y3 y4) (foretelllaw_sameModel.j0 (k + 1) y0 y1 y2 y3 y4))∧(∀ y0 y1 y2 y3 y4,LeO (foretelllaw_sameModel.l0 k y0 y1 y2 y3 y4) (foretelllaw_sameModel.l0 (k + 1) y0 y1 y2 y3 y4))∧(∀ y0 y1 y2 y3 y4,LeO (foretelllaw_sameModel.l1 k y0 y1 y2 y3 y4) (foretelllaw_sameModel.l1 (k + 1) y0 y1 y2 y3 y4))∧(∀ y0 y1 y2 y3 y4 y5 y6 y7 y8 y9,LeO (foretelllaw_sameModel.j3 k y0 y1 y2 y3 y4 y5 y6 y7 y8 y9) (foretelllaw_sameModel.j3 (k + 1) y0 y1 y2 y3 y4 y5 y6 y7 y8 y9))∧(∀ y0 y1 y2 y3 y4 y5 y6 y7 y8 y9,LeO (foretelllaw_sameModel.l2 k y0 y1 y2 y3 y4 y5 y6 y7 y8 y9) (foretelllaw_sameModel.l2 (k + 1) y0 y1 y2 y3 y4 y5 y6 y7 y8 y9))
 | 0=>⟨fun _ _ _ _ _ r h=>by simp [foretelllaw_sameModel.j0] at h,fun _ _ _ _ _ r h=>by simp [foretelllaw_sameModel.l0] at h,fun _ _ _ _ _ r h=>by simp [foretelllaw_sameModel.l1] at h,fun _ _ _ _ _ _ _ _ _ _ r h=>by simp [foretelllaw_sameModel.j3] at h,fun _ _ _ _ _ _ _ _ _ _ r h=>by simp [foretelllaw_sameModel.l2] at h⟩
 | k + 1=>by
  obtain ⟨ih0,ih1,ih2,ih3,ih4⟩:=foretelllaw_sameModel.mono_l k
  refine ⟨?_,?_,?_,?_,?_⟩
  ·intro y0 y1 y2 y3 y4
   unfold foretelllaw_sameModel.j0
   repeat' first
   | (with_reducible exact ih0 _ _ _ _ _)
   | (with_reducible exact ih1 _ _ _ _ _)
   | (with_reducible exact ih2 _ _ _ _ _)
   | (with_reducible exact ih3 _ _ _ _ _ _ _ _ _ _)
   | (with_reducible exact ih4 _ _ _ _ _ _ _ _ _ _)
   | (with_reducible exact foretelllaw_sameOps.mono _ _ _)
   | (with_reducible exact LeO.refl _)
   | (with_reducible exact LeO.none _)
   | (with_reducible refine LeO.ite ?_ ?_)
   | (with_reducible refine LeO.bind ?_ (fun _=>?_))
   | exact ih0 _ _ _ _ _
   | exact ih1 _ _ _ _ _
   | exact ih2 _ _ _ _ _
   | exact ih3 _ _ _ _ _ _ _ _ _ _
   | exact ih4 _ _ _ _ _ _ _ _ _ _
   | exact foretelllaw_sameOps.mono _ _ _
   | exact LeO.none _
   | refine LeO.ite ?_ ?_
   | refine LeO.bind ?_ (fun _=>?_)
  ·intro y0 y1 y2 y3 y4
   unfold foretelllaw_sameModel.l0
   repeat' first
   | (with_reducible exact ih0 _ _ _ _ _)
   | (with_reducible exact ih1 _ _ _ _ _)
   | (with_reducible exact ih2 _ _ _ _ _)
   | (with_reducible exact ih3 _ _ _ _ _ _ _ _ _ _)
   | (with_reducible exact ih4 _ _ _ _ _ _ _ _ _ _)
   | (with_reducible exact foretelllaw_sameOps.mono _ _ _)
   | (with_reducible exact LeO.refl _)
   | (with_reducible exact LeO.none _)
   | (with_reducible refine LeO.ite ?_ ?_)
   | (with_reducible refine LeO.bind ?_ (fun _=>?_))
   | exact ih0 _ _ _ _ _
   | exact ih1 _ _ _ _ _
   | exact ih2 _ _ _ _ _
   | exact ih3 _ _ _ _ _ _ _ _ _ _
   | exact ih4 _ _ _ _ _ _ _ _ _ _
   | exact foretelllaw_sameOps.mono _ _ _
   | exact LeO.none _
   | refine LeO.ite ?_ ?_
   | refine LeO.bind ?_ (fun _=>?_)
  ·intro y0 y1 y2 y3 y4
   unfold foretelllaw_sameModel.l1
   repeat' first
   | (with_reducible exact ih0 _ _ _ _ _)
   | (with_reducible exact ih1 _ _ _ _ _)
   | (with_reducible exact ih2 _ _ _ _ _)
   | (with_reducible exact ih3 _ _ _ _ _ _ _ _ _ _)
   | (with_reducible exact ih4 _ _ _ _ _ _ _ _ _ _)
   | (with_reducible exact foretelllaw_sameOps.mono _ _ _)
   | (with_reducible exact LeO.refl _)
   | (with_reducible exact LeO.none _)
   | (with_reducible refine LeO.ite ?_ ?_)
   | (with_reducible refine LeO.bind ?_ (fun _=>?_))
   | exact ih0 _ _ _ _ _
   | exact ih1 _ _ _ _ _
   | exact ih2 _ _ _ _ _
   | exact ih3 _ _ _ _ _ _ _ _ _ _
   | exact ih4 _ _ _ _ _ _ _ _ _ _
   | exact foretelllaw_sameOps.mono _ _ _
   | exact LeO.none _
   | refine LeO.ite ?_ ?_
   | refine LeO.bind ?_ (fun _=>?_)
  ·intro y0 y1 y2 y3 y4 y5 y6 y7 y8 y9
   unfold foretelllaw_sameModel.j3
   repeat' first
   | (with_reducible exact ih0 _ _ _ _ _)
   | (with_reducible exact ih1 _ _ _ _ _)
   | (with_reducible exact ih2 _ _ _ _ _)
   | (with_reducible exact ih3 _ _ _ _ _ _ _ _ _ _)
   | (with_reducible exact ih4 _ _ _ _ _ _ _ _ _ _)
   | (with_reducible exact foretelllaw_sameOps.mono _ _ _)
   | (with_reducible exact LeO.refl _)
   | (with_reducible exact LeO.none _)
   | (with_reducible refine LeO.ite ?_ ?_)
   | (with_reducible refine LeO.bind ?_ (fun _=>?_))
   | exact ih0 _ _ _ _ _
   | exact ih1 _ _ _ _ _
   | exact ih2 _ _ _ _ _
   | exact ih3 _ _ _ _ _ _ _ _ _ _
   | exact ih4 _ _ _ _ _ _ _ _ _ _
   | exact foretelllaw_sameOps.mono _ _ _
   | exact LeO.none _
   | refine LeO.ite ?_ ?_
   | refine LeO.bind ?_ (fun _=>?_)
  ·intro y0 y1 y2 y3 y4 y5 y6 y7 y8 y9
   unfold foretelllaw_sameModel.l2
   repeat' first
   | (with_reducible exact ih0 _ _ _ _ _)
   | (with_reducible exact ih1 _ _ _ _ _)
   | (with_reducible exact ih2 _ _ _ _ _)
   | (with_reducible exact ih3 _ _ _ _ _ _ _ _ _ _)
   | (with_reducible exact ih4 _ _ _ _ _ _ _ _ _ _)
   | (with_reducible exact foretelllaw_sameOps.mono _ _ _)
   | (with_reducible exact LeO.refl _)
   | (with_reducible exact LeO.none _)
   | (with_reducible refine LeO.ite ?_ ?_)
   | (with_reducible refine LeO.bind ?_ (fun _=>?_))
   | exact ih0 _ _ _ _ _
   | exact ih1 _ _ _ _ _
   | exact ih2 _ _ _ _ _
   | exact ih3 _ _ _ _ _ _ _ _ _ _
   | exact ih4 _ _ _ _ _ _ _ _ _ _
   | exact foretelllaw_sameOps.mono _ _ _
   | exact LeO.none _
   | refine LeO.ite ?_ ?_
   | refine LeO.bind ?_ (fun _=>?_)
theorem foretelllaw_sameModel.mono:∀ a0 a1 a2 a3 k,LeO (foretelllaw_sameModel.f k a0 a1 a2 a3) (foretelllaw_sameModel.f (k + 1) a0 a1 a2 a3):=by
 intro a0 a1 a2 a3 k
 obtain ⟨ih0,ih1,ih2,ih3,ih4⟩:=foretelllaw_sameModel.mono_l k
 unfold foretelllaw_sameModel.f
 repeat' first
   | (with_reducible exact ih0 _ _ _ _ _)
   | (with_reducible exact ih1 _ _ _ _ _)
   | (with_reducible exact ih2 _ _ _ _ _)
   | (with_reducible exact ih3 _ _ _ _ _ _ _ _ _ _)
   | (with_reducible exact ih4 _ _ _ _ _ _ _ _ _ _)
   | (with_reducible exact foretelllaw_sameOps.mono _ _ _)
   | (with_reducible exact LeO.refl _)
   | (with_reducible exact LeO.none _)
   | (with_reducible refine LeO.ite ?_ ?_)
   | (with_reducible refine LeO.bind ?_ (fun _=>?_))
   | exact ih0 _ _ _ _ _
   | exact ih1 _ _ _ _ _
   | exact ih2 _ _ _ _ _
   | exact ih3 _ _ _ _ _ _ _ _ _ _
   | exact ih4 _ _ _ _ _ _ _ _ _ _
   | exact foretelllaw_sameOps.mono _ _ _
   | exact LeO.none _
   | refine LeO.ite ?_ ?_
   | refine LeO.bind ?_ (fun _=>?_)
set_option maxHeartbeats 8000000 in
set_option maxRecDepth 100000 in
theorem foretelllaw_sameModel.calls (k:Nat) (A0_0:Option Addr) (c0_0:Nat) (l0_0:List (S74)) (A0_1:Option Addr) (c0_1:Nat) (l0_1:List (S68)) (A1_0:Option Addr) (c1_0:Nat) (l1_0:List (S74)) (A1_1:Option Addr) (c1_1:Nat) (l1_1:List (S68)) (r:Bool) (w:World) (hr0_0:Kd.C k74 w A0_0 l0_0.length l0_0) (hc0_0:l0_0.length ≤ c0_0) (hr0_1:Kd.C k68 w A0_1 l0_1.length l0_1) (hc0_1:l0_1.length ≤ c0_1) (hr1_0:Kd.C k74 w A1_0 l1_0.length l1_0) (hc1_0:l1_0.length ≤ c1_0) (hr1_1:Kd.C k68 w A1_1 l1_1.length l1_1) (hc1_1:l1_1.length ≤ c1_1) (h:foretelllaw_sameModel.f k l0_0 l0_1 l1_0 l1_1 = some r) :
  Calls Tryd.prog 18 #[.agg #[.slice A0_0 l0_0.length c0_0,.slice A0_1 l0_1.length c0_1],.agg #[.slice A1_0 l1_0.length c1_0,.slice A1_1 l1_1.length c1_1]] w fun e w'=>e = .returned (.bool r)∧Below w.heap.size w w':=by
 have hu25:=Tryd.underlying25
 have hu74:=Tryd.underlying74
 have hu68:=Tryd.underlying68
 have HR0_0:=zA hr0_0
 have HC0_0:=zA hc0_0
 clear hr0_0 hc0_0
 have HR0_1:=zA hr0_1
 have HC0_1:=zA hc0_1
 clear hr0_1 hc0_1
 have HR1_0:=zA hr1_0
 have HC1_0:=zA hc1_0
 clear hr1_0 hc1_0
 have HR1_1:=zA hr1_1
 have HC1_1:=zA hc1_1
 clear hr1_1 hc1_1
 have HB:=zA (Below.refl w.heap.size w)
 have H:(if (l0_0.length:Int) = (l1_0.length:Int) then (foretelllaw_sameModel.j0 k ((l0_1.length:Int) != (l1_1.length:Int)) l0_0 l0_1 l1_0 l1_1) else (foretelllaw_sameModel.j0 k true l0_0 l0_1 l1_0 l1_1)) = some r:=h
 clear h
 have HC3:=zA H
 clear H
 go_enter Tryd.func18,Tryd.ntmps18
 go_upto_region 1 with (first|((with_reducible refine zV (N:=2) rfl ?_);(try (refine gate_guard (by rfl) ?_;dsimp only));refine zW ?hg (N:=2) ?hd (cs:=#[.slice A0_0 l0_0.length c0_0,.slice A0_1 l0_1.length c0_1]) (t:=25) ?hr ?_;(case hd=>rfl);(case hg=>rfl);(case hr=>first|(go_simp;done)|(go_simp;rfl));intro gb241 hg w4 hbox hb;have n0_:=zA (zH (by repeat (first|(with_reducible first|exact HB.out|apply zD|apply zC|apply zE)|exact HB.out)) hb);have n1_:=zA (hbox);have n2_:=zA ((by rw [hg];exact (zG (by repeat (first|(with_reducible first|exact HB.out|apply zD|apply zC|apply zE)|exact HB.out))):w.heap.size ≤ gb241));have n3_:=zA ((by rw [hg];exact (zG (by repeat (first|(with_reducible first|exact HB.out|apply zD|apply zC|apply zE)|exact HB.out))):w.heap.size ≤ gb241));clear HB;have HB:=n0_;have BK241:=n1_;have GW241:=n2_;have GE241:=n3_;clear n0_ n1_ n2_ n3_;clear hb hbox hg)|((with_reducible refine zV (N:=3) rfl ?_);(try (refine gate_guard (by rfl) ?_;dsimp only));refine zW ?hg (N:=3) ?hd (cs:=#[.slice A1_0 l1_0.length c1_0,.slice A1_1 l1_1.length c1_1]) (t:=25) ?hr ?_;(case hd=>rfl);(case hg=>rfl);(case hr=>first|(go_simp;done)|(go_simp;rfl));intro gb242 hg w5 hbox hb;have n0_:=zA (zN (g:=gb241) (o:=.cells #[.slice A0_0 l0_0.length c0_0,.slice A0_1 l0_1.length c0_1] 25 (0,0)) (by (with_reducible repeat (first|refine zL ?_ _|refine zM ?_|refine zK ?_ _));exact BK241.out) hb);have n1_:=zA (zH (by repeat (first|(with_reducible first|exact HB.out|apply zD|apply zC|apply zE|refine zF ?_ GE241.out)|exact HB.out)) hb);have n2_:=zA (hbox);have n3_:=zA ((by rw [hg];exact (zG (by repeat (first|(with_reducible first|exact HB.out|apply zD|apply zC|apply zE|refine zF ?_ GE241.out)|exact HB.out))):w.heap.size ≤ gb242));have n4_:=zA ((by rw [hg];exact (zG (by repeat (first|(with_reducible first|exact HB.out|apply zD|apply zC|apply zE|refine zF ?_ GE241.out)|exact HB.out))):w.heap.size ≤ gb242));have n5_:=zA ((by rw [hg];exact Nat.ne_of_lt (blk_lt (g:=gb241) (o:=.cells #[.slice A0_0 l0_0.length c0_0,.slice A0_1 l0_1.length c0_1] 25 (0,0)) (by (with_reducible repeat (first|refine zL ?_ _|refine zM ?_|refine zK ?_ _));exact BK241.out)):gb241 ≠ gb242));have n6_:=zA ((by rw [hg];exact Nat.ne_of_gt (blk_lt (g:=gb241) (o:=.cells #[.slice A0_0 l0_0.length c0_0,.slice A0_1 l0_1.length c0_1] 25 (0,0)) (by (with_reducible repeat (first|refine zL ?_ _|refine zM ?_|refine zK ?_ _));exact BK241.out)):gb242 ≠ gb241));clear BK241;clear HB;have BK241:=n0_;have HB:=n1_;have BK242:=n2_;have GW242:=n3_;have GE242:=n4_;have NB241_242:=n5_;have NB242_241:=n6_;clear n0_ n1_ n2_ n3_ n4_ n5_ n6_;clear hb hbox hg))
 repeat (go_quiet (first|((with_reducible refine zV (N:=2) rfl ?_);(try (refine gate_guard (by rfl) ?_;dsimp only));refine zW ?hg (N:=2) ?hd (cs:=#[.slice A0_0 l0_0.length c0_0,.slice A0_1 l0_1.length c0_1]) (t:=25) ?hr ?_;(case hd=>rfl);(case hg=>rfl);(case hr=>first|(go_simp;done)|(go_simp;rfl));intro gb241 hg w4 hbox hb;have n0_:=zA (zH (by repeat (first|(with_reducible first|exact HB.out|apply zD|apply zC|apply zE)|exact HB.out)) hb);have n1_:=zA (hbox);have n2_:=zA ((by rw [hg];exact (zG (by repeat (first|(with_reducible first|exact HB.out|apply zD|apply zC|apply zE)|exact HB.out))):w.heap.size ≤ gb241));have n3_:=zA ((by rw [hg];exact (zG (by repeat (first|(with_reducible first|exact HB.out|apply zD|apply zC|apply zE)|exact HB.out))):w.heap.size ≤ gb241));clear HB;have HB:=n0_;have BK241:=n1_;have GW241:=n2_;have GE241:=n3_;clear n0_ n1_ n2_ n3_;clear hb hbox hg)|((with_reducible refine zV (N:=3) rfl ?_);(try (refine gate_guard (by rfl) ?_;dsimp only));refine zW ?hg (N:=3) ?hd (cs:=#[.slice A1_0 l1_0.length c1_0,.slice A1_1 l1_1.length c1_1]) (t:=25) ?hr ?_;(case hd=>rfl);(case hg=>rfl);(case hr=>first|(go_simp;done)|(go_simp;rfl));intro gb242 hg w5 hbox hb;have n0_:=zA (zN (g:=gb241) (o:=.cells #[.slice A0_0 l0_0.length c0_0,.slice A0_1 l0_1.length c0_1] 25 (0,0)) (by (with_reducible repeat (first|refine zL ?_ _|refine zM ?_|refine zK ?_ _));exact BK241.out) hb);have n1_:=zA (zH (by repeat (first|(with_reducible first|exact HB.out|apply zD|apply zC|apply zE|refine zF ?_ GE241.out)|exact HB.out)) hb);have n2_:=zA (hbox);have n3_:=zA ((by rw [hg];exact (zG (by repeat (first|(with_reducible first|exact HB.out|apply zD|apply zC|apply zE|refine zF ?_ GE241.out)|exact HB.out))):w.heap.size ≤ gb242));have n4_:=zA ((by rw [hg];exact (zG (by repeat (first|(with_reducible first|exact HB.out|apply zD|apply zC|apply zE|refine zF ?_ GE241.out)|exact HB.out))):w.heap.size ≤ gb242));have n5_:=zA ((by rw [hg];exact Nat.ne_of_lt (blk_lt (g:=gb241) (o:=.cells #[.slice A0_0 l0_0.length c0_0,.slice A0_1 l0_1.length c0_1] 25 (0,0)) (by (with_reducible repeat (first|refine zL ?_ _|refine zM ?_|refine zK ?_ _));exact BK241.out)):gb241 ≠ gb242));have n6_:=zA ((by rw [hg];exact Nat.ne_of_gt (blk_lt (g:=gb241) (o:=.cells #[.slice A0_0 l0_0.length c0_0,.slice A0_1 l0_1.length c0_1] 25 (0,0)) (by (with_reducible repeat (first|refine zL ?_ _|refine zM ?_|refine zK ?_ _));exact BK241.out)):gb242 ≠ gb241));clear BK241;clear HB;have BK241:=n0_;have HB:=n1_;have BK242:=n2_;have GW242:=n3_;have GE242:=n4_;have NB241_242:=n5_;have NB242_241:=n6_;clear n0_ n1_ n2_ n3_ n4_ n5_ n6_;clear hb hbox hg));go_upto_region 1 with (first|((with_reducible refine zV (N:=2) rfl ?_);(try (refine gate_guard (by rfl) ?_;dsimp only));refine zW ?hg (N:=2) ?hd (cs:=#[.slice A0_0 l0_0.length c0_0,.slice A0_1 l0_1.length c0_1]) (t:=25) ?hr ?_;(case hd=>rfl);(case hg=>rfl);(case hr=>first|(go_simp;done)|(go_simp;rfl));intro gb241 hg w4 hbox hb;have n0_:=zA (zH (by repeat (first|(with_reducible first|exact HB.out|apply zD|apply zC|apply zE)|exact HB.out)) hb);have n1_:=zA (hbox);have n2_:=zA ((by rw [hg];exact (zG (by repeat (first|(with_reducible first|exact HB.out|apply zD|apply zC|apply zE)|exact HB.out))):w.heap.size ≤ gb241));have n3_:=zA ((by rw [hg];exact (zG (by repeat (first|(with_reducible first|exact HB.out|apply zD|apply zC|apply zE)|exact HB.out))):w.heap.size ≤ gb241));clear HB;have HB:=n0_;have BK241:=n1_;have GW241:=n2_;have GE241:=n3_;clear n0_ n1_ n2_ n3_;clear hb hbox hg)|((with_reducible refine zV (N:=3) rfl ?_);(try (refine gate_guard (by rfl) ?_;dsimp only));refine zW ?hg (N:=3) ?hd (cs:=#[.slice A1_0 l1_0.length c1_0,.slice A1_1 l1_1.length c1_1]) (t:=25) ?hr ?_;(case hd=>rfl);(case hg=>rfl);(case hr=>first|(go_simp;done)|(go_simp;rfl));intro gb242 hg w5 hbox hb;have n0_:=zA (zN (g:=gb241) (o:=.cells #[.slice A0_0 l0_0.length c0_0,.slice A0_1 l0_1.length c0_1] 25 (0,0)) (by (with_reducible repeat (first|refine zL ?_ _|refine zM ?_|refine zK ?_ _));exact BK241.out) hb);have n1_:=zA (zH (by repeat (first|(with_reducible first|exact HB.out|apply zD|apply zC|apply zE|refine zF ?_ GE241.out)|exact HB.out)) hb);have n2_:=zA (hbox);have n3_:=zA ((by rw [hg];exact (zG (by repeat (first|(with_reducible first|exact HB.out|apply zD|apply zC|apply zE|refine zF ?_ GE241.out)|exact HB.out))):w.heap.size ≤ gb242));have n4_:=zA ((by rw [hg];exact (zG (by repeat (first|(with_reducible first|exact HB.out|apply zD|apply zC|apply zE|refine zF ?_ GE241.out)|exact HB.out))):w.heap.size ≤ gb242));have n5_:=zA ((by rw [hg];exact Nat.ne_of_lt (blk_lt (g:=gb241) (o:=.cells #[.slice A0_0 l0_0.length c0_0,.slice A0_1 l0_1.length c0_1] 25 (0,0)) (by (with_reducible repeat (first|refine zL ?_ _|refine zM ?_|refine zK ?_ _));exact BK241.out)):gb241 ≠ gb242));have n6_:=zA ((by rw [hg];exact Nat.ne_of_gt (blk_lt (g:=gb241) (o:=.cells #[.slice A0_0 l0_0.length c0_0,.slice A0_1 l0_1.length c0_1] 25 (0,0)) (by (with_reducible repeat (first|refine zL ?_ _|refine zM ?_|refine zK ?_ _));exact BK241.out)):gb242 ≠ gb241));clear BK241;clear HB;have BK241:=n0_;have HB:=n1_;have BK242:=n2_;have GW242:=n3_;have GE242:=n4_;have NB241_242:=n5_;have NB242_241:=n6_;clear n0_ n1_ n2_ n3_ n4_ n5_ n6_;clear hb hbox hg)))
 (try simp only [Act.put,zX,zY,zZ])
 go_cut [25] (fun v25 wc=>∃ (kq:Nat) (x25_2:Bool),v25 = .bool x25_2∧Aside0 (foretelllaw_sameModel.j0 kq x25_2 l0_0 l0_1 l1_0 l1_1 = some r)∧Aside0 (kq ≤ k)∧Aside0 (wc.heap[gb241]? = some (.cells #[(.slice A0_0 l0_0.length c0_0),(.slice A0_1 l0_1.length c0_1)] 25 (0,0)))∧Aside0 (wc.heap[gb242]? = some (.cells #[(.slice A1_0 l1_0.length c1_0),(.slice A1_1 l1_1.length c1_1)] 25 (0,0)))∧Aside0 (Below w.heap.size w wc))
 case first =>
  have H:=HC3.out
  clear HC3
  by_cases c6:(l0_0.length:Int) = (l1_0.length:Int)
  ·rw [if_pos c6] at H
   have c6b0:((l0_0.length:Int) == (l1_0.length:Int)) = true:=beq_iff_eq.mpr c6
   have c6b1:((l0_0.length:Int) != (l1_0.length:Int)) = false:=bne_eq_false_iff_eq.mpr c6
   have c6b2:(l0_0.length == l1_0.length) = true:=by first|simpa using c6|(simp at c6 ⊢;omega)
   clear c6
   (first|rw [c6b0]|(simp only [i64_w,i32_w];rw [c6b0])|skip)
   have H':=zA H
   clear H
   have hnb7:=NB241_242.out
   have hnc7:=NB242_241.out
   have hcz8_0:w5.cell? ⟨gb241,0,none⟩ = some (.slice A0_0 l0_0.length c0_0):=(zI BK241.out 0).trans rfl
   have hcz8_1:w5.cell? ⟨gb241,1,none⟩ = some (.slice A0_1 l0_1.length c0_1):=(zI BK241.out 1).trans rfl
   have hfz8_0:=zJ BK241.out 0
   have hfz8_1:=zJ BK241.out 1
   have hcz9_0:w5.cell? ⟨gb242,0,none⟩ = some (.slice A1_0 l1_0.length c1_0):=(zI BK242.out 0).trans rfl
   have hcz9_1:w5.cell? ⟨gb242,1,none⟩ = some (.slice A1_1 l1_1.length c1_1):=(zI BK242.out 1).trans rfl
   have hfz9_0:=zJ BK242.out 0
   have hfz9_1:=zJ BK242.out 1
   go_wp2
   repeat (go_quiet (fail);try go_wp2)
   go_meet
   case rel=>exact ⟨_,(((l0_1.length:Int) != (l1_1.length:Int))),(by first|rfl|(simp;done)|(simp [*];done)),H',⟨by first|omega|exact Nat.le_refl _⟩,⟨by (with_reducible repeat (first|refine zL ?_ _|refine zM ?_|refine zK ?_ _));exact BK241.out⟩,⟨by (with_reducible repeat (first|refine zL ?_ _|refine zM ?_|refine zK ?_ _));exact BK242.out⟩,⟨by repeat (first|(with_reducible first|exact HB.out|apply zD|apply zC|apply zE|refine zF ?_ GE241.out|refine zF ?_ GE242.out)|exact HB.out)⟩⟩
  ·rw [if_neg c6] at H
   have c6b0:((l0_0.length:Int) == (l1_0.length:Int)) = false:=beq_eq_false_iff_ne.mpr c6
   have c6b1:((l0_0.length:Int) != (l1_0.length:Int)) = true:=bne_iff_ne.mpr c6
   have c6b2:(l0_0.length == l1_0.length) = false:=by first|simpa using c6|(simp at c6 ⊢;omega)
   (first|rw [c6b0]|(simp only [i64_w,i32_w];rw [c6b0])|skip)
   have H':=zA H
   clear H
   have hnb10:=NB241_242.out
   have hnc10:=NB242_241.out
   have hcz11_0:w5.cell? ⟨gb241,0,none⟩ = some (.slice A0_0 l0_0.length c0_0):=(zI BK241.out 0).trans rfl
   have hcz11_1:w5.cell? ⟨gb241,1,none⟩ = some (.slice A0_1 l0_1.length c0_1):=(zI BK241.out 1).trans rfl
   have hfz11_0:=zJ BK241.out 0
   have hfz11_1:=zJ BK241.out 1
   have hcz12_0:w5.cell? ⟨gb242,0,none⟩ = some (.slice A1_0 l1_0.length c1_0):=(zI BK242.out 0).trans rfl
   have hcz12_1:w5.cell? ⟨gb242,1,none⟩ = some (.slice A1_1 l1_1.length c1_1):=(zI BK242.out 1).trans rfl
   have hfz12_0:=zJ BK242.out 0
   have hfz12_1:=zJ BK242.out 1
   go_wp2
   repeat (go_quiet (fail);try go_wp2)
   go_meet
   case rel=>exact ⟨_,(true),(by first|rfl|(simp;done)|(simp [*];done)),H',⟨by first|omega|exact Nat.le_refl _⟩,⟨by (with_reducible repeat (first|refine zL ?_ _|refine zM ?_|refine zK ?_ _));exact BK241.out⟩,⟨by (with_reducible repeat (first|refine zL ?_ _|refine zM ?_|refine zK ?_ _));exact BK242.out⟩,⟨by repeat (first|(with_reducible first|exact HB.out|apply zD|apply zC|apply zE|refine zF ?_ GE241.out|refine zF ?_ GE242.out)|exact HB.out)⟩⟩
 case rest =>
  clear HC3
  try clear c1
  try clear p2
  try clear c6
  try clear c6b0
  try clear c6b1
  try clear c6b2
  try clear c7
  try clear c10
  try clear hcz11_0
  try clear hcz11_1
  try clear hcz12_0
  try clear hcz12_1
  try clear hcz8_0
  try clear hcz8_1
  try clear hcz9_0
  try clear hcz9_1
  try clear hfz11_0
  try clear hfz11_1
  try clear hfz12_0
  try clear hfz12_1
  try clear hfz8_0
  try clear hfz8_1
  try clear hfz9_0
  try clear hfz9_1
  obtain ⟨kq,x25_2,rfl,HA,HJ2,BK241,BK242,HB⟩:=hcut
  cases kq with
  | zero=>exact absurd HA.out (by simp [foretelllaw_sameModel.j0])
  | succ kj2 =>
   have H:=HA.out
   clear HA
   simp only [foretelllaw_sameModel.j0] at H
   by_cases c13:x25_2 = true
   ·subst c13
    have H1:(some false) = some r:=by rw [if_pos rfl] at H;exact H
    clear H
    have H:=H1
    clear H1
    obtain rfl:=Option.some.inj H
    go_wp2
    repeat (go_quiet (fail);try go_wp2)
    go_ret
    exact ⟨by first|rfl|(simp [errW_none,errW_some] <;> rfl)|(simp [*,errW_none,errW_some] <;> rfl),by repeat (first|(with_reducible first|exact HB.out|apply zD|apply zC|apply zE|refine zF ?_ GE241.out|refine zF ?_ GE242.out)|exact HB.out)⟩
   ·replace c13:=Bool.eq_false_iff.mpr c13
    subst c13
    have H1:(foretelllaw_sameModel.l0 kj2 0 l0_0 l0_1 l1_0 l1_1) = some r:=by rw [if_neg (show ¬ (false = true) by decide)] at H;exact H
    clear H
    have H:=H1
    clear H1
    have H':=zA H
    clear H
    go_wp2
    repeat (go_quiet (fail);try go_wp2)
    go_loopg [5] kj2 (fun kq v5 w'=>∃ (x5_2:Int),v5 = .int .i64 x5_2∧Aside0 (foretelllaw_sameModel.l0 kq x5_2 l0_0 l0_1 l1_0 l1_1 = some r)∧Aside0 (kq ≤ kj2)∧Aside0 (w'.heap[gb241]? = some (.cells #[(.slice A0_0 l0_0.length c0_0),(.slice A0_1 l0_1.length c0_1)] 25 (0,0)))∧Aside0 (w'.heap[gb242]? = some (.cells #[(.slice A1_0 l1_0.length c1_0),(.slice A1_1 l1_1.length c1_1)] 25 (0,0)))∧Aside0 (Below w.heap.size w w'))
    case atStart=>exact ⟨(0),(by first|rfl|(simp;done)|(simp [*];done)),H',⟨Nat.le_refl _⟩,⟨by (with_reducible repeat (first|refine zL ?_ _|refine zM ?_|refine zK ?_ _));exact BK241.out⟩,⟨by (with_reducible repeat (first|refine zL ?_ _|refine zM ?_|refine zK ?_ _));exact BK242.out⟩,⟨by repeat (first|(with_reducible first|exact HB.out|apply zD|apply zC|apply zE|refine zF ?_ GE241.out|refine zF ?_ GE242.out)|exact HB.out)⟩⟩
    case round =>
     clear H'
     try clear c1
     try clear p2
     try clear c6
     try clear c6b0
     try clear c6b1
     try clear c6b2
     try clear c7
     try clear c10
     try clear c13
     try clear hcz11_0
     try clear hcz11_1
     try clear hcz12_0
     try clear hcz12_1
     try clear hcz8_0
     try clear hcz8_1
     try clear hcz9_0
     try clear hcz9_1
     try clear hfz11_0
     try clear hfz11_1
     try clear hfz12_0
     try clear hfz12_1
     try clear hfz8_0
     try clear hfz8_1
     try clear hfz9_0
     try clear hfz9_1
     try clear p2
     obtain ⟨x5_2,rfl,HA,HK2,BK241,BK242,HB⟩:=hrel
     cases gk with
     | zero=>exact absurd HA.out (by simp [foretelllaw_sameModel.l0])
     | succ k2 =>
      have H:=HA.out
      clear HA
      simp only [foretelllaw_sameModel.l0] at H
      by_cases c14:x5_2 < (l0_0.length:Int)
      ·rw [if_pos c14] at H
       have c14b0:decide (x5_2 < (l0_0.length:Int)) = true:=zQ c14
       clear c14
       by_cases c15:0 ≤ x5_2
       ·rw [if_pos c15] at H
        have c15b0:decide (0 ≤ x5_2) = true:=zQ c15
        clear c15
        by_cases c16:x5_2 < (l1_0.length:Int)
        ·rw [if_pos c16] at H
         have c16b0:decide (x5_2 < (l1_0.length:Int)) = true:=zQ c16
         clear c16
         by_cases c17:(!((((rd_T74 l0_0 x5_2).f0).toList) == (((rd_T74 l1_0 x5_2).f0).toList)) || (!(((rd_T74 l0_0 x5_2).f1) == ((rd_T74 l1_0 x5_2).f1)) || (!(((rd_T74 l0_0 x5_2).f2) == ((rd_T74 l1_0 x5_2).f2)) || (!(((rd_T74 l0_0 x5_2).f3) == ((rd_T74 l1_0 x5_2).f3)))))) = true
         ·rw [if_pos c17] at H
          have c17b0:(!((((rd_T74 l0_0 x5_2).f0).toList) == (((rd_T74 l1_0 x5_2).f0).toList)) || (!(((rd_T74 l0_0 x5_2).f1) == ((rd_T74 l1_0 x5_2).f1)) || (!(((rd_T74 l0_0 x5_2).f2) == ((rd_T74 l1_0 x5_2).f2)) || (!(((rd_T74 l0_0 x5_2).f3) == ((rd_T74 l1_0 x5_2).f3)))))) = true:=c17
          clear c17
          obtain rfl:=Option.some.inj H
          have hnb18:=NB241_242.out
          have hnc18:=NB242_241.out
          have hcz19_0:wr.cell? ⟨gb241,0,none⟩ = some (.slice A0_0 l0_0.length c0_0):=(zI BK241.out 0).trans rfl
          have hcz19_1:wr.cell? ⟨gb241,1,none⟩ = some (.slice A0_1 l0_1.length c0_1):=(zI BK241.out 1).trans rfl
          have hfz19_0:=zJ BK241.out 0
          have hfz19_1:=zJ BK241.out 1
          have p243:0 ≤ (x5_2:Int):=zP (by assumption)
          have q243:x5_2 < (l0_0.length:Int):=zP (by assumption)
          obtain ⟨ad243,e243,hx243_0,hx243_1,hx243_2,hx243_3⟩:=at_T74 HR0_0.out x5_2 p243 q243
          cases e243
          replace hx243_0:=(HB.out.cell (zB w _ hx243_0)).trans hx243_0
          replace hx243_1:=(HB.out.cell (zB w _ hx243_1)).trans hx243_1
          replace hx243_2:=(HB.out.cell (zB w _ hx243_2)).trans hx243_2
          replace hx243_3:=(HB.out.cell (zB w _ hx243_3)).trans hx243_3
          replace p243:=eq_true p243
          replace q243:=eq_true q243
          have hcz20_0:wr.cell? ⟨gb242,0,none⟩ = some (.slice A1_0 l1_0.length c1_0):=(zI BK242.out 0).trans rfl
          have hcz20_1:wr.cell? ⟨gb242,1,none⟩ = some (.slice A1_1 l1_1.length c1_1):=(zI BK242.out 1).trans rfl
          have hfz20_0:=zJ BK242.out 0
          have hfz20_1:=zJ BK242.out 1
          have p244:0 ≤ (x5_2:Int):=zP (by assumption)
          have q244:x5_2 < (l1_0.length:Int):=zP (by assumption)
          obtain ⟨ad244,e244,hx244_0,hx244_1,hx244_2,hx244_3⟩:=at_T74 HR1_0.out x5_2 p244 q244
          cases e244
          replace hx244_0:=(HB.out.cell (zB w _ hx244_0)).trans hx244_0
          replace hx244_1:=(HB.out.cell (zB w _ hx244_1)).trans hx244_1
          replace hx244_2:=(HB.out.cell (zB w _ hx244_2)).trans hx244_2
          replace hx244_3:=(HB.out.cell (zB w _ hx244_3)).trans hx244_3
          replace p244:=eq_true p244
          replace q244:=eq_true q244
          go_wp2
          repeat (go_quiet (fail);try go_wp2)
          go_ret
          exact ⟨by first|rfl|(simp [errW_none,errW_some] <;> rfl)|(simp [*,errW_none,errW_some] <;> rfl),by repeat (first|(with_reducible first|exact HB.out|apply zD|apply zC|apply zE|refine zF ?_ GE241.out|refine zF ?_ GE242.out)|exact HB.out)⟩
         ·rw [if_neg c17] at H
          have c17b0:(!((((rd_T74 l0_0 x5_2).f0).toList) == (((rd_T74 l1_0 x5_2).f0).toList)) || (!(((rd_T74 l0_0 x5_2).f1) == ((rd_T74 l1_0 x5_2).f1)) || (!(((rd_T74 l0_0 x5_2).f2) == ((rd_T74 l1_0 x5_2).f2)) || (!(((rd_T74 l0_0 x5_2).f3) == ((rd_T74 l1_0 x5_2).f3)))))) = false:=by simpa using c17
          clear c17
          have H':=zA H
          clear H
          have hnb21:=NB241_242.out
          have hnc21:=NB242_241.out
          have hcz22_0:wr.cell? ⟨gb241,0,none⟩ = some (.slice A0_0 l0_0.length c0_0):=(zI BK241.out 0).trans rfl
          have hcz22_1:wr.cell? ⟨gb241,1,none⟩ = some (.slice A0_1 l0_1.length c0_1):=(zI BK241.out 1).trans rfl
          have hfz22_0:=zJ BK241.out 0
          have hfz22_1:=zJ BK241.out 1
          have p243:0 ≤ (x5_2:Int):=zP (by assumption)
          have q243:x5_2 < (l0_0.length:Int):=zP (by assumption)
          obtain ⟨ad243,e243,hx243_0,hx243_1,hx243_2,hx243_3⟩:=at_T74 HR0_0.out x5_2 p243 q243
          cases e243
          replace hx243_0:=(HB.out.cell (zB w _ hx243_0)).trans hx243_0
          replace hx243_1:=(HB.out.cell (zB w _ hx243_1)).trans hx243_1
          replace hx243_2:=(HB.out.cell (zB w _ hx243_2)).trans hx243_2
          replace hx243_3:=(HB.out.cell (zB w _ hx243_3)).trans hx243_3
          replace p243:=eq_true p243
          replace q243:=eq_true q243
          have hcz23_0:wr.cell? ⟨gb242,0,none⟩ = some (.slice A1_0 l1_0.length c1_0):=(zI BK242.out 0).trans rfl
          have hcz23_1:wr.cell? ⟨gb242,1,none⟩ = some (.slice A1_1 l1_1.length c1_1):=(zI BK242.out 1).trans rfl
          have hfz23_0:=zJ BK242.out 0
          have hfz23_1:=zJ BK242.out 1
          have p244:0 ≤ (x5_2:Int):=zP (by assumption)
          have q244:x5_2 < (l1_0.length:Int):=zP (by assumption)
          obtain ⟨ad244,e244,hx244_0,hx244_1,hx244_2,hx244_3⟩:=at_T74 HR1_0.out x5_2 p244 q244
          cases e244
          replace hx244_0:=(HB.out.cell (zB w _ hx244_0)).trans hx244_0
          replace hx244_1:=(HB.out.cell (zB w _ hx244_1)).trans hx244_1
          replace hx244_2:=(HB.out.cell (zB w _ hx244_2)).trans hx244_2
          replace hx244_3:=(HB.out.cell (zB w _ hx244_3)).trans hx244_3
          replace p244:=eq_true p244
          replace q244:=eq_true q244
          go_wp2
          repeat (go_quiet (fail);try go_wp2)
          go_roundg k2
          case measure=>have:=HJ2.out;have:=HK2.out;omega
          case rel=>exact ⟨(wrap64 (x5_2 + 1)),(by first|rfl|(simp;done)|(simp [*];done)),H',⟨by have:=HJ2.out;have:=HK2.out;omega⟩,⟨by (with_reducible repeat (first|refine zL ?_ _|refine zM ?_|refine zK ?_ _));exact BK241.out⟩,⟨by (with_reducible repeat (first|refine zL ?_ _|refine zM ?_|refine zK ?_ _));exact BK242.out⟩,⟨by repeat (first|(with_reducible first|exact HB.out|apply zD|apply zC|apply zE|refine zF ?_ GE241.out|refine zF ?_ GE242.out)|exact HB.out)⟩⟩
        ·rw [if_neg c16] at H
         exact absurd H (by simp)
       ·rw [if_neg c15] at H
        exact absurd H (by simp)
      ·rw [if_neg c14] at H
       have c14b0:decide (x5_2 < (l0_0.length:Int)) = false:=zR c14
       clear c14
       have H':=zA H
       clear H
       have hnb24:=NB241_242.out
       have hnc24:=NB242_241.out
       have hcz25_0:wr.cell? ⟨gb241,0,none⟩ = some (.slice A0_0 l0_0.length c0_0):=(zI BK241.out 0).trans rfl
       have hcz25_1:wr.cell? ⟨gb241,1,none⟩ = some (.slice A0_1 l0_1.length c0_1):=(zI BK241.out 1).trans rfl
       have hfz25_0:=zJ BK241.out 0
       have hfz25_1:=zJ BK241.out 1
       go_wp2
       repeat (go_quiet (fail);try go_wp2)
       go_loopg [6] k2 (fun kq v6 w'=>∃ (x6_3:Int),v6 = .int .i64 x6_3∧Aside0 (foretelllaw_sameModel.l1 kq x6_3 l0_0 l0_1 l1_0 l1_1 = some r)∧Aside0 (kq ≤ k2)∧Aside0 (w'.heap[gb241]? = some (.cells #[(.slice A0_0 l0_0.length c0_0),(.slice A0_1 l0_1.length c0_1)] 25 (0,0)))∧Aside0 (w'.heap[gb242]? = some (.cells #[(.slice A1_0 l1_0.length c1_0),(.slice A1_1 l1_1.length c1_1)] 25 (0,0)))∧Aside0 (Below w.heap.size w w'))
       case atStart=>exact ⟨(0),(by first|rfl|(simp;done)|(simp [*];done)),H',⟨Nat.le_refl _⟩,⟨by (with_reducible repeat (first|refine zL ?_ _|refine zM ?_|refine zK ?_ _));exact BK241.out⟩,⟨by (with_reducible repeat (first|refine zL ?_ _|refine zM ?_|refine zK ?_ _));exact BK242.out⟩,⟨by repeat (first|(with_reducible first|exact HB.out|apply zD|apply zC|apply zE|refine zF ?_ GE241.out|refine zF ?_ GE242.out)|exact HB.out)⟩⟩
       case round =>
        clear H'
        try clear c1
        try clear c2
        try clear p2
        try clear q2
        try clear hx2
        try clear c6
        try clear c6b0
        try clear c6b1
        try clear c6b2
        try clear p6
        try clear c7
        try clear c10
        try clear c13
        try clear c14
        try clear c14b0
        try clear c15
        try clear c15b0
        try clear c16
        try clear c16b0
        try clear c17
        try clear c17b0
        try clear c18
        try clear c21
        try clear c24
        try clear p24
        try clear q24
        try clear hx24
        try clear hcz11_0
        try clear hcz11_1
        try clear hcz12_0
        try clear hcz12_1
        try clear hcz19_0
        try clear hcz19_1
        try clear hcz20_0
        try clear hcz20_1
        try clear hcz22_0
        try clear hcz22_1
        try clear hcz23_0
        try clear hcz23_1
        try clear hcz25_0
        try clear hcz25_1
        try clear hcz8_0
        try clear hcz8_1
        try clear hcz9_0
        try clear hcz9_1
        try clear hfz11_0
        try clear hfz11_1
        try clear hfz12_0
        try clear hfz12_1
        try clear hfz19_0
        try clear hfz19_1
        try clear hfz20_0
        try clear hfz20_1
        try clear hfz22_0
        try clear hfz22_1
        try clear hfz23_0
        try clear hfz23_1
        try clear hfz25_0
        try clear hfz25_1
        try clear hfz8_0
        try clear hfz8_1
        try clear hfz9_0
        try clear hfz9_1
        try clear hx243_0
        try clear hx243_1
        try clear hx243_2
        try clear hx243_3
        try clear hx244_0
        try clear hx244_1
        try clear hx244_2
        try clear hx244_3
        try clear p2
        try clear p243
        try clear p244
        try clear q243
        try clear q244
        obtain ⟨x6_3,rfl,HA,HK3,BK241,BK242,HB⟩:=hrel
        cases gk with
        | zero=>exact absurd HA.out (by simp [foretelllaw_sameModel.l1])
        | succ k3 =>
         have H:=HA.out
         clear HA
         simp only [foretelllaw_sameModel.l1] at H
         by_cases c26:x6_3 < (l0_1.length:Int)
         ·rw [if_pos c26] at H
          have c26b0:decide (x6_3 < (l0_1.length:Int)) = true:=zQ c26
          clear c26
          by_cases c27:0 ≤ x6_3
          ·rw [if_pos c27] at H
           have c27b0:decide (0 ≤ x6_3) = true:=zQ c27
           clear c27
           by_cases c28:x6_3 < (l1_1.length:Int)
           ·rw [if_pos c28] at H
            have c28b0:decide (x6_3 < (l1_1.length:Int)) = true:=zQ c28
            clear c28
            have HC29:=zA H
            clear H
            have hnb30:=NB241_242.out
            have hnc30:=NB242_241.out
            have hcz31_0:wr.cell? ⟨gb241,0,none⟩ = some (.slice A0_0 l0_0.length c0_0):=(zI BK241.out 0).trans rfl
            have hcz31_1:wr.cell? ⟨gb241,1,none⟩ = some (.slice A0_1 l0_1.length c0_1):=(zI BK241.out 1).trans rfl
            have hfz31_0:=zJ BK241.out 0
            have hfz31_1:=zJ BK241.out 1
            have p245:0 ≤ (x6_3:Int):=zP (by assumption)
            have q245:x6_3 < (l0_1.length:Int):=zP (by assumption)
            obtain ⟨ad245,A245_0,c245_0,A245_1,c245_1,e245,hx245_0,hx245_1,hl245_0,hi245_0,hl245_1,hi245_1⟩:=at_T68 HR0_1.out x6_3 p245 q245
            cases e245
            replace hx245_0:=(HB.out.cell (zB w _ hx245_0)).trans hx245_0
            replace hx245_1:=(HB.out.cell (zB w _ hx245_1)).trans hx245_1
            have HR245_0:=zA hi245_0
            have HC245_0:=zA hl245_0
            clear hi245_0 hl245_0
            have HR245_1:=zA hi245_1
            have HC245_1:=zA hl245_1
            clear hi245_1 hl245_1
            replace p245:=eq_true p245
            replace q245:=eq_true q245
            go_upto_region 13 with (first|((with_reducible refine zV (N:=7) rfl ?_);(try (refine gate_guard (by rfl) ?_;dsimp only));refine zW ?hg (N:=7) ?hd (cs:=#[.slice none 0 0,.slice none 0 0]) (t:=68) ?hr ?_;(case hd=>rfl);(case hg=>rfl);(case hr=>first|(go_simp;done)|(go_simp;rfl));intro gb246 hg w32 hbox hb;have n0_:=zA (zN (g:=gb241) (o:=.cells #[.slice A0_0 l0_0.length c0_0,.slice (some ad245) l0_1.length c0_1] 25 (0,0)) (by (with_reducible repeat (first|refine zL ?_ _|refine zM ?_|refine zK ?_ _));exact BK241.out) hb);have n1_:=zA (zN (g:=gb242) (o:=.cells #[.slice A1_0 l1_0.length c1_0,.slice A1_1 l1_1.length c1_1] 25 (0,0)) (by (with_reducible repeat (first|refine zL ?_ _|refine zM ?_|refine zK ?_ _));exact BK242.out) hb);have n2_:=zA (zH (by repeat (first|(with_reducible first|exact HB.out|apply zD|apply zC|apply zE|refine zF ?_ GE241.out|refine zF ?_ GE242.out)|exact HB.out)) hb);have n3_:=zA (hbox);have n4_:=zA ((by rw [hg];exact (zG (by repeat (first|(with_reducible first|exact HB.out|apply zD|apply zC|apply zE|refine zF ?_ GE241.out|refine zF ?_ GE242.out)|exact HB.out))):w.heap.size ≤ gb246));have n5_:=zA ((by rw [hg];exact (zG (by repeat (first|(with_reducible first|exact HB.out|apply zD|apply zC|apply zE|refine zF ?_ GE241.out|refine zF ?_ GE242.out)|exact HB.out))):w.heap.size ≤ gb246));have n6_:=zA ((by rw [hg];exact Nat.ne_of_lt (blk_lt (g:=gb241) (o:=.cells #[.slice A0_0 l0_0.length c0_0,.slice (some ad245) l0_1.length c0_1] 25 (0,0)) (by (with_reducible repeat (first|refine zL ?_ _|refine zM ?_|refine zK ?_ _));exact BK241.out)):gb241 ≠ gb246));have n7_:=zA ((by rw [hg];exact Nat.ne_of_gt (blk_lt (g:=gb241) (o:=.cells #[.slice A0_0 l0_0.length c0_0,.slice (some ad245) l0_1.length c0_1] 25 (0,0)) (by (with_reducible repeat (first|refine zL ?_ _|refine zM ?_|refine zK ?_ _));exact BK241.out)):gb246 ≠ gb241));have n8_:=zA ((by rw [hg];exact Nat.ne_of_lt (blk_lt (g:=gb242) (o:=.cells #[.slice A1_0 l1_0.length c1_0,.slice A1_1 l1_1.length c1_1] 25 (0,0)) (by (with_reducible repeat (first|refine zL ?_ _|refine zM ?_|refine zK ?_ _));exact BK242.out)):gb242 ≠ gb246));have n9_:=zA ((by rw [hg];exact Nat.ne_of_gt (blk_lt (g:=gb242) (o:=.cells #[.slice A1_0 l1_0.length c1_0,.slice A1_1 l1_1.length c1_1] 25 (0,0)) (by (with_reducible repeat (first|refine zL ?_ _|refine zM ?_|refine zK ?_ _));exact BK242.out)):gb246 ≠ gb242));clear BK241;clear BK242;clear HB;have BK241:=n0_;have BK242:=n1_;have HB:=n2_;have BK246:=n3_;have GW246:=n4_;have GE246:=n5_;have NB241_246:=n6_;have NB246_241:=n7_;have NB242_246:=n8_;have NB246_242:=n9_;clear n0_ n1_ n2_ n3_ n4_ n5_ n6_ n7_ n8_ n9_;clear hb hbox hg;have hnb33:=NB246_241.out;have hnc33:=NB241_246.out;have hnb34:=NB246_242.out;have hnc34:=NB242_246.out;have hcz35_0:w32.cell? ⟨gb246,0,none⟩ = some (.slice none 0 0):=(zI BK246.out 0).trans rfl;have hcz35_1:w32.cell? ⟨gb246,1,none⟩ = some (.slice none 0 0):=(zI BK246.out 1).trans rfl;have hfz35_0:=zJ BK246.out 0;have hfz35_1:=zJ BK246.out 1;have hcz36_0:w32.cell? ⟨gb242,0,none⟩ = some (.slice A1_0 l1_0.length c1_0):=(zI BK242.out 0).trans rfl;have hcz36_1:w32.cell? ⟨gb242,1,none⟩ = some (.slice A1_1 l1_1.length c1_1):=(zI BK242.out 1).trans rfl;have hfz36_0:=zJ BK242.out 0;have hfz36_1:=zJ BK242.out 1;have p247:0 ≤ (x6_3:Int):=zP (by assumption);have q247:x6_3 < (l1_1.length:Int):=zP (by assumption);obtain ⟨ad247,A247_0,c247_0,A247_1,c247_1,e247,hx247_0,hx247_1,hl247_0,hi247_0,hl247_1,hi247_1⟩:=at_T68 HR1_1.out x6_3 p247 q247;cases e247;have hn247_0:ad247.block ≠ gb246:=Nat.ne_of_lt (zS (by have:=zB _ _ hx247_0;first|rwa [add_block] at this|exact this) GW246.out);have hn247_1:ad247.block ≠ gb246:=Nat.ne_of_lt (zS (by have:=zB _ _ hx247_0;first|rwa [add_block] at this|exact this) GW246.out);replace hx247_0:=(HB.out.cell (zB w _ hx247_0)).trans hx247_0;replace hx247_1:=(HB.out.cell (zB w _ hx247_1)).trans hx247_1;have HR247_0:=zA hi247_0;have HC247_0:=zA hl247_0;clear hi247_0 hl247_0;have HR247_1:=zA hi247_1;have HC247_1:=zA hl247_1;clear hi247_1 hl247_1;replace hx247_0:=(cell_far (p:=⟨gb246,0,none⟩) (by first|(rw [add_block];exact hn247_0)|(show (Addr.add _ _).block ≠ _;rw [add_block];exact hn247_0)|exact hn247_0) (.slice A245_0 ((rd_T68 l0_1 x6_3).f0).length c245_0)).trans hx247_0;replace hx247_1:=(cell_far (p:=⟨gb246,0,none⟩) (by first|(rw [add_block];exact hn247_0)|(show (Addr.add _ _).block ≠ _;rw [add_block];exact hn247_0)|exact hn247_0) (.slice A245_0 ((rd_T68 l0_1 x6_3).f0).length c245_0)).trans hx247_1;replace hx247_0:=(cell_far (p:=⟨gb246,1,none⟩) (by first|(rw [add_block];exact hn247_1)|(show (Addr.add _ _).block ≠ _;rw [add_block];exact hn247_1)|exact hn247_1) (.slice A245_1 ((rd_T68 l0_1 x6_3).f1).length c245_1)).trans hx247_0;replace hx247_1:=(cell_far (p:=⟨gb246,1,none⟩) (by first|(rw [add_block];exact hn247_1)|(show (Addr.add _ _).block ≠ _;rw [add_block];exact hn247_1)|exact hn247_1) (.slice A245_1 ((rd_T68 l0_1 x6_3).f1).length c245_1)).trans hx247_1;(try have hy247_0:=fun (n_:Nat)=>(show ((((w32.drewN n_).setCell ⟨gb246,0,none⟩ (.slice A245_0 ((rd_T68 l0_1 x6_3).f0).length c245_0)).setCell ⟨gb246,1,none⟩ (.slice A245_1 ((rd_T68 l0_1 x6_3).f1).length c245_1))).cell? _ = some _ from hx247_0));(try have hy247_1:=fun (n_:Nat)=>(show ((((w32.drewN n_).setCell ⟨gb246,0,none⟩ (.slice A245_0 ((rd_T68 l0_1 x6_3).f0).length c245_0)).setCell ⟨gb246,1,none⟩ (.slice A245_1 ((rd_T68 l0_1 x6_3).f1).length c245_1))).cell? _ = some _ from hx247_1));clear hn247_0;clear hn247_1;replace p247:=eq_true p247;replace q247:=eq_true q247)|((with_reducible refine zV (N:=8) rfl ?_);(try (refine gate_guard (by rfl) ?_;dsimp only));refine zW ?hg (N:=8) ?hd (cs:=#[.slice none 0 0,.slice none 0 0]) (t:=68) ?hr ?_;(case hd=>rfl);(case hg=>rfl);(case hr=>first|(go_simp;done)|(go_simp;rfl));intro gb248 hg w37 hbox hb;have n0_:=zA (zN (g:=gb241) (o:=.cells #[.slice A0_0 l0_0.length c0_0,.slice (some ad245) l0_1.length c0_1] 25 (0,0)) (by (with_reducible repeat (first|refine zL ?_ _|refine zM ?_|refine zK ?_ _));refine blk_far ?_ NB241_246.out _;(with_reducible repeat (first|refine zL ?_ _|refine zM ?_|refine zK ?_ _));refine blk_far ?_ NB241_246.out _;(with_reducible repeat (first|refine zL ?_ _|refine zM ?_|refine zK ?_ _));exact BK241.out) hb);have n1_:=zA (zN (g:=gb242) (o:=.cells #[.slice A1_0 l1_0.length c1_0,.slice (some ad247) l1_1.length c1_1] 25 (0,0)) (by (with_reducible repeat (first|refine zL ?_ _|refine zM ?_|refine zK ?_ _));refine blk_far ?_ NB242_246.out _;(with_reducible repeat (first|refine zL ?_ _|refine zM ?_|refine zK ?_ _));refine blk_far ?_ NB242_246.out _;(with_reducible repeat (first|refine zL ?_ _|refine zM ?_|refine zK ?_ _));exact BK242.out) hb);have n2_:=zA (zN (g:=gb246) (o:=.cells #[.slice A245_0 ((rd_T68 l0_1 x6_3).f0).length c245_0,.slice A245_1 ((rd_T68 l0_1 x6_3).f1).length c245_1] 68 (0,0)) (by (with_reducible repeat (first|refine zL ?_ _|refine zM ?_|refine zK ?_ _));refine zO (cs:=#[.slice A245_0 ((rd_T68 l0_1 x6_3).f0).length c245_0,.slice none 0 0]) ?_ 1 _ rfl;(with_reducible repeat (first|refine zL ?_ _|refine zM ?_|refine zK ?_ _));refine zO (cs:=#[.slice none 0 0,.slice none 0 0]) ?_ 0 _ rfl;(with_reducible repeat (first|refine zL ?_ _|refine zM ?_|refine zK ?_ _));exact BK246.out) hb);have n3_:=zA (zH (by repeat (first|(with_reducible first|exact HB.out|apply zD|apply zC|apply zE|refine zF ?_ GE241.out|refine zF ?_ GE242.out|refine zF ?_ GE246.out)|exact HB.out)) hb);have n4_:=zA (hbox);have n5_:=zA ((by rw [hg];exact (zG (by repeat (first|(with_reducible first|exact HB.out|apply zD|apply zC|apply zE|refine zF ?_ GE241.out|refine zF ?_ GE242.out|refine zF ?_ GE246.out)|exact HB.out))):w.heap.size ≤ gb248));have n6_:=zA ((by rw [hg];exact (zG (by repeat (first|(with_reducible first|exact HB.out|apply zD|apply zC|apply zE|refine zF ?_ GE241.out|refine zF ?_ GE242.out|refine zF ?_ GE246.out)|exact HB.out))):w.heap.size ≤ gb248));have n7_:=zA ((by rw [hg];exact Nat.ne_of_lt (blk_lt (g:=gb241) (o:=.cells #[.slice A0_0 l0_0.length c0_0,.slice (some ad245) l0_1.length c0_1] 25 (0,0)) (by (with_reducible repeat (first|refine zL ?_ _|refine zM ?_|refine zK ?_ _));refine blk_far ?_ NB241_246.out _;(with_reducible repeat (first|refine zL ?_ _|refine zM ?_|refine zK ?_ _));refine blk_far ?_ NB241_246.out _;(with_reducible repeat (first|refine zL ?_ _|refine zM ?_|refine zK ?_ _));exact BK241.out)):gb241 ≠ gb248));have n8_:=zA ((by rw [hg];exact Nat.ne_of_gt (blk_lt (g:=gb241) (o:=.cells #[.slice A0_0 l0_0.length c0_0,.slice (some ad245) l0_1.length c0_1] 25 (0,0)) (by (with_reducible repeat (first|refine zL ?_ _|refine zM ?_|refine zK ?_ _));refine blk_far ?_ NB241_246.out _;(with_reducible repeat (first|refine zL ?_ _|refine zM ?_|refine zK ?_ _));refine blk_far ?_ NB241_246.out _;(with_reducible repeat (first|refine zL ?_ _|refine zM ?_|refine zK ?_ _));exact BK241.out)):gb248 ≠ gb241));have n9_:=zA ((by rw [hg];exact Nat.ne_of_lt (blk_lt (g:=gb242) (o:=.cells #[.slice A1_0 l1_0.length c1_0,.slice (some ad247) l1_1.length c1_1] 25 (0,0)) (by (with_reducible repeat (first|refine zL ?_ _|refine zM ?_|refine zK ?_ _));refine blk_far ?_ NB242_246.out _;(with_reducible repeat (first|refine zL ?_ _|refine zM ?_|refine zK ?_ _));refine blk_far ?_ NB242_246.out _;(with_reducible repeat (first|refine zL ?_ _|refine zM ?_|refine zK ?_ _));exact BK242.out)):gb242 ≠ gb248));have n10_:=zA ((by rw [hg];exact Nat.ne_of_gt (blk_lt (g:=gb242) (o:=.cells #[.slice A1_0 l1_0.length c1_0,.slice (some ad247) l1_1.length c1_1] 25 (0,0)) (by (with_reducible repeat (first|refine zL ?_ _|refine zM ?_|refine zK ?_ _));refine blk_far ?_ NB242_246.out _;(with_reducible repeat (first|refine zL ?_ _|refine zM ?_|refine zK ?_ _));refine blk_far ?_ NB242_246.out _;(with_reducible repeat (first|refine zL ?_ _|refine zM ?_|refine zK ?_ _));exact BK242.out)):gb248 ≠ gb242));have n11_:=zA ((by rw [hg];exact Nat.ne_of_lt (blk_lt (g:=gb246) (o:=.cells #[.slice A245_0 ((rd_T68 l0_1 x6_3).f0).length c245_0,.slice A245_1 ((rd_T68 l0_1 x6_3).f1).length c245_1] 68 (0,0)) (by (with_reducible repeat (first|refine zL ?_ _|refine zM ?_|refine zK ?_ _));refine zO (cs:=#[.slice A245_0 ((rd_T68 l0_1 x6_3).f0).length c245_0,.slice none 0 0]) ?_ 1 _ rfl;(with_reducible repeat (first|refine zL ?_ _|refine zM ?_|refine zK ?_ _));refine zO (cs:=#[.slice none 0 0,.slice none 0 0]) ?_ 0 _ rfl;(with_reducible repeat (first|refine zL ?_ _|refine zM ?_|refine zK ?_ _));exact BK246.out)):gb246 ≠ gb248));have n12_:=zA ((by rw [hg];exact Nat.ne_of_gt (blk_lt (g:=gb246) (o:=.cells #[.slice A245_0 ((rd_T68 l0_1 x6_3).f0).length c245_0,.slice A245_1 ((rd_T68 l0_1 x6_3).f1).length c245_1] 68 (0,0)) (by (with_reducible repeat (first|refine zL ?_ _|refine zM ?_|refine zK ?_ _));refine zO (cs:=#[.slice A245_0 ((rd_T68 l0_1 x6_3).f0).length c245_0,.slice none 0 0]) ?_ 1 _ rfl;(with_reducible repeat (first|refine zL ?_ _|refine zM ?_|refine zK ?_ _));refine zO (cs:=#[.slice none 0 0,.slice none 0 0]) ?_ 0 _ rfl;(with_reducible repeat (first|refine zL ?_ _|refine zM ?_|refine zK ?_ _));exact BK246.out)):gb248 ≠ gb246));clear BK241;clear BK242;clear BK246;clear HB;have BK241:=n0_;have BK242:=n1_;have BK246:=n2_;have HB:=n3_;have BK248:=n4_;have GW248:=n5_;have GE248:=n6_;have NB241_248:=n7_;have NB248_241:=n8_;have NB242_248:=n9_;have NB248_242:=n10_;have NB246_248:=n11_;have NB248_246:=n12_;clear n0_ n1_ n2_ n3_ n4_ n5_ n6_ n7_ n8_ n9_ n10_ n11_ n12_;clear hb hbox hg;have hnb38:=NB248_241.out;have hnc38:=NB241_248.out;have hnb39:=NB248_242.out;have hnc39:=NB242_248.out;have hnb40:=NB248_246.out;have hnc40:=NB246_248.out;have hcz41_0:w37.cell? ⟨gb248,0,none⟩ = some (.slice none 0 0):=(zI BK248.out 0).trans rfl;have hcz41_1:w37.cell? ⟨gb248,1,none⟩ = some (.slice none 0 0):=(zI BK248.out 1).trans rfl;have hfz41_0:=zJ BK248.out 0;have hfz41_1:=zJ BK248.out 1))
            repeat (go_quiet (first|((with_reducible refine zV (N:=7) rfl ?_);(try (refine gate_guard (by rfl) ?_;dsimp only));refine zW ?hg (N:=7) ?hd (cs:=#[.slice none 0 0,.slice none 0 0]) (t:=68) ?hr ?_;(case hd=>rfl);(case hg=>rfl);(case hr=>first|(go_simp;done)|(go_simp;rfl));intro gb246 hg w32 hbox hb;have n0_:=zA (zN (g:=gb241) (o:=.cells #[.slice A0_0 l0_0.length c0_0,.slice (some ad245) l0_1.length c0_1] 25 (0,0)) (by (with_reducible repeat (first|refine zL ?_ _|refine zM ?_|refine zK ?_ _));exact BK241.out) hb);have n1_:=zA (zN (g:=gb242) (o:=.cells #[.slice A1_0 l1_0.length c1_0,.slice A1_1 l1_1.length c1_1] 25 (0,0)) (by (with_reducible repeat (first|refine zL ?_ _|refine zM ?_|refine zK ?_ _));exact BK242.out) hb);have n2_:=zA (zH (by repeat (first|(with_reducible first|exact HB.out|apply zD|apply zC|apply zE|refine zF ?_ GE241.out|refine zF ?_ GE242.out)|exact HB.out)) hb);have n3_:=zA (hbox);have n4_:=zA ((by rw [hg];exact (zG (by repeat (first|(with_reducible first|exact HB.out|apply zD|apply zC|apply zE|refine zF ?_ GE241.out|refine zF ?_ GE242.out)|exact HB.out))):w.heap.size ≤ gb246));have n5_:=zA ((by rw [hg];exact (zG (by repeat (first|(with_reducible first|exact HB.out|apply zD|apply zC|apply zE|refine zF ?_ GE241.out|refine zF ?_ GE242.out)|exact HB.out))):w.heap.size ≤ gb246));have n6_:=zA ((by rw [hg];exact Nat.ne_of_lt (blk_lt (g:=gb241) (o:=.cells #[.slice A0_0 l0_0.length c0_0,.slice (some ad245) l0_1.length c0_1] 25 (0,0)) (by (with_reducible repeat (first|refine zL ?_ _|refine zM ?_|refine zK ?_ _));exact BK241.out)):gb241 ≠ gb246));have n7_:=zA ((by rw [hg];exact Nat.ne_of_gt (blk_lt (g:=gb241) (o:=.cells #[.slice A0_0 l0_0.length c0_0,.slice (some ad245) l0_1.length c0_1] 25 (0,0)) (by (with_reducible repeat (first|refine zL ?_ _|refine zM ?_|refine zK ?_ _));exact BK241.out)):gb246 ≠ gb241));have n8_:=zA ((by rw [hg];exact Nat.ne_of_lt (blk_lt (g:=gb242) (o:=.cells #[.slice A1_0 l1_0.length c1_0,.slice A1_1 l1_1.length c1_1] 25 (0,0)) (by (with_reducible repeat (first|refine zL ?_ _|refine zM ?_|refine zK ?_ _));exact BK242.out)):gb242 ≠ gb246));have n9_:=zA ((by rw [hg];exact Nat.ne_of_gt (blk_lt (g:=gb242) (o:=.cells #[.slice A1_0 l1_0.length c1_0,.slice A1_1 l1_1.length c1_1] 25 (0,0)) (by (with_reducible repeat (first|refine zL ?_ _|refine zM ?_|refine zK ?_ _));exact BK242.out)):gb246 ≠ gb242));clear BK241;clear BK242;clear HB;have BK241:=n0_;have BK242:=n1_;have HB:=n2_;have BK246:=n3_;have GW246:=n4_;have GE246:=n5_;have NB241_246:=n6_;have NB246_241:=n7_;have NB242_246:=n8_;have NB246_242:=n9_;clear n0_ n1_ n2_ n3_ n4_ n5_ n6_ n7_ n8_ n9_;clear hb hbox hg;have hnb33:=NB246_241.out;have hnc33:=NB241_246.out;have hnb34:=NB246_242.out;have hnc34:=NB242_246.out;have hcz35_0:w32.cell? ⟨gb246,0,none⟩ = some (.slice none 0 0):=(zI BK246.out 0).trans rfl;have hcz35_1:w32.cell? ⟨gb246,1,none⟩ = some (.slice none 0 0):=(zI BK246.out 1).trans rfl;have hfz35_0:=zJ BK246.out 0;have hfz35_1:=zJ BK246.out 1;have hcz36_0:w32.cell? ⟨gb242,0,none⟩ = some (.slice A1_0 l1_0.length c1_0):=(zI BK242.out 0).trans rfl;have hcz36_1:w32.cell? ⟨gb242,1,none⟩ = some (.slice A1_1 l1_1.length c1_1):=(zI BK242.out 1).trans rfl;have hfz36_0:=zJ BK242.out 0;have hfz36_1:=zJ BK242.out 1;have p247:0 ≤ (x6_3:Int):=zP (by assumption);have q247:x6_3 < (l1_1.length:Int):=zP (by assumption);obtain ⟨ad247,A247_0,c247_0,A247_1,c247_1,e247,hx247_0,hx247_1,hl247_0,hi247_0,hl247_1,hi247_1⟩:=at_T68 HR1_1.out x6_3 p247 q247;cases e247;have hn247_0:ad247.block ≠ gb246:=Nat.ne_of_lt (zS (by have:=zB _ _ hx247_0;first|rwa [add_block] at this|exact this) GW246.out);have hn247_1:ad247.block ≠ gb246:=Nat.ne_of_lt (zS (by have:=zB _ _ hx247_0;first|rwa [add_block] at this|exact this) GW246.out);replace hx247_0:=(HB.out.cell (zB w _ hx247_0)).trans hx247_0;replace hx247_1:=(HB.out.cell (zB w _ hx247_1)).trans hx247_1;have HR247_0:=zA hi247_0;have HC247_0:=zA hl247_0;clear hi247_0 hl247_0;have HR247_1:=zA hi247_1;have HC247_1:=zA hl247_1;clear hi247_1 hl247_1;replace hx247_0:=(cell_far (p:=⟨gb246,0,none⟩) (by first|(rw [add_block];exact hn247_0)|(show (Addr.add _ _).block ≠ _;rw [add_block];exact hn247_0)|exact hn247_0) (.slice A245_0 ((rd_T68 l0_1 x6_3).f0).length c245_0)).trans hx247_0;replace hx247_1:=(cell_far (p:=⟨gb246,0,none⟩) (by first|(rw [add_block];exact hn247_0)|(show (Addr.add _ _).block ≠ _;rw [add_block];exact hn247_0)|exact hn247_0) (.slice A245_0 ((rd_T68 l0_1 x6_3).f0).length c245_0)).trans hx247_1;replace hx247_0:=(cell_far (p:=⟨gb246,1,none⟩) (by first|(rw [add_block];exact hn247_1)|(show (Addr.add _ _).block ≠ _;rw [add_block];exact hn247_1)|exact hn247_1) (.slice A245_1 ((rd_T68 l0_1 x6_3).f1).length c245_1)).trans hx247_0;replace hx247_1:=(cell_far (p:=⟨gb246,1,none⟩) (by first|(rw [add_block];exact hn247_1)|(show (Addr.add _ _).block ≠ _;rw [add_block];exact hn247_1)|exact hn247_1) (.slice A245_1 ((rd_T68 l0_1 x6_3).f1).length c245_1)).trans hx247_1;(try have hy247_0:=fun (n_:Nat)=>(show ((((w32.drewN n_).setCell ⟨gb246,0,none⟩ (.slice A245_0 ((rd_T68 l0_1 x6_3).f0).length c245_0)).setCell ⟨gb246,1,none⟩ (.slice A245_1 ((rd_T68 l0_1 x6_3).f1).length c245_1))).cell? _ = some _ from hx247_0));(try have hy247_1:=fun (n_:Nat)=>(show ((((w32.drewN n_).setCell ⟨gb246,0,none⟩ (.slice A245_0 ((rd_T68 l0_1 x6_3).f0).length c245_0)).setCell ⟨gb246,1,none⟩ (.slice A245_1 ((rd_T68 l0_1 x6_3).f1).length c245_1))).cell? _ = some _ from hx247_1));clear hn247_0;clear hn247_1;replace p247:=eq_true p247;replace q247:=eq_true q247)|((with_reducible refine zV (N:=8) rfl ?_);(try (refine gate_guard (by rfl) ?_;dsimp only));refine zW ?hg (N:=8) ?hd (cs:=#[.slice none 0 0,.slice none 0 0]) (t:=68) ?hr ?_;(case hd=>rfl);(case hg=>rfl);(case hr=>first|(go_simp;done)|(go_simp;rfl));intro gb248 hg w37 hbox hb;have n0_:=zA (zN (g:=gb241) (o:=.cells #[.slice A0_0 l0_0.length c0_0,.slice (some ad245) l0_1.length c0_1] 25 (0,0)) (by (with_reducible repeat (first|refine zL ?_ _|refine zM ?_|refine zK ?_ _));refine blk_far ?_ NB241_246.out _;(with_reducible repeat (first|refine zL ?_ _|refine zM ?_|refine zK ?_ _));refine blk_far ?_ NB241_246.out _;(with_reducible repeat (first|refine zL ?_ _|refine zM ?_|refine zK ?_ _));exact BK241.out) hb);have n1_:=zA (zN (g:=gb242) (o:=.cells #[.slice A1_0 l1_0.length c1_0,.slice (some ad247) l1_1.length c1_1] 25 (0,0)) (by (with_reducible repeat (first|refine zL ?_ _|refine zM ?_|refine zK ?_ _));refine blk_far ?_ NB242_246.out _;(with_reducible repeat (first|refine zL ?_ _|refine zM ?_|refine zK ?_ _));refine blk_far ?_ NB242_246.out _;(with_reducible repeat (first|refine zL ?_ _|refine zM ?_|refine zK ?_ _));exact BK242.out) hb);have n2_:=zA (zN (g:=gb246) (o:=.cells #[.slice A245_0 ((rd_T68 l0_1 x6_3).f0).length c245_0,.slice A245_1 ((rd_T68 l0_1 x6_3).f1).length c245_1] 68 (0,0)) (by (with_reducible repeat (first|refine zL ?_ _|refine zM ?_|refine zK ?_ _));refine zO (cs:=#[.slice A245_0 ((rd_T68 l0_1 x6_3).f0).length c245_0,.slice none 0 0]) ?_ 1 _ rfl;(with_reducible repeat (first|refine zL ?_ _|refine zM ?_|refine zK ?_ _));refine zO (cs:=#[.slice none 0 0,.slice none 0 0]) ?_ 0 _ rfl;(with_reducible repeat (first|refine zL ?_ _|refine zM ?_|refine zK ?_ _));exact BK246.out) hb);have n3_:=zA (zH (by repeat (first|(with_reducible first|exact HB.out|apply zD|apply zC|apply zE|refine zF ?_ GE241.out|refine zF ?_ GE242.out|refine zF ?_ GE246.out)|exact HB.out)) hb);have n4_:=zA (hbox);have n5_:=zA ((by rw [hg];exact (zG (by repeat (first|(with_reducible first|exact HB.out|apply zD|apply zC|apply zE|refine zF ?_ GE241.out|refine zF ?_ GE242.out|refine zF ?_ GE246.out)|exact HB.out))):w.heap.size ≤ gb248));have n6_:=zA ((by rw [hg];exact (zG (by repeat (first|(with_reducible first|exact HB.out|apply zD|apply zC|apply zE|refine zF ?_ GE241.out|refine zF ?_ GE242.out|refine zF ?_ GE246.out)|exact HB.out))):w.heap.size ≤ gb248));have n7_:=zA ((by rw [hg];exact Nat.ne_of_lt (blk_lt (g:=gb241) (o:=.cells #[.slice A0_0 l0_0.length c0_0,.slice (some ad245) l0_1.length c0_1] 25 (0,0)) (by (with_reducible repeat (first|refine zL ?_ _|refine zM ?_|refine zK ?_ _));refine blk_far ?_ NB241_246.out _;(with_reducible repeat (first|refine zL ?_ _|refine zM ?_|refine zK ?_ _));refine blk_far ?_ NB241_246.out _;(with_reducible repeat (first|refine zL ?_ _|refine zM ?_|refine zK ?_ _));exact BK241.out)):gb241 ≠ gb248));have n8_:=zA ((by rw [hg];exact Nat.ne_of_gt (blk_lt (g:=gb241) (o:=.cells #[.slice A0_0 l0_0.length c0_0,.slice (some ad245) l0_1.length c0_1] 25 (0,0)) (by (with_reducible repeat (first|refine zL ?_ _|refine zM ?_|refine zK ?_ _));refine blk_far ?_ NB241_246.out _;(with_reducible repeat (first|refine zL ?_ _|refine zM ?_|refine zK ?_ _));refine blk_far ?_ NB241_246.out _;(with_reducible repeat (first|refine zL ?_ _|refine zM ?_|refine zK ?_ _));exact BK241.out)):gb248 ≠ gb241));have n9_:=zA ((by rw [hg];exact Nat.ne_of_lt (blk_lt (g:=gb242) (o:=.cells #[.slice A1_0 l1_0.length c1_0,.slice (some ad247) l1_1.length c1_1] 25 (0,0)) (by (with_reducible repeat (first|refine zL ?_ _|refine zM ?_|refine zK ?_ _));refine blk_far ?_ NB242_246.out _;(with_reducible repeat (first|refine zL ?_ _|refine zM ?_|refine zK ?_ _));refine blk_far ?_ NB242_246.out _;(with_reducible repeat (first|refine zL ?_ _|refine zM ?_|refine zK ?_ _));exact BK242.out)):gb242 ≠ gb248));have n10_:=zA ((by rw [hg];exact Nat.ne_of_gt (blk_lt (g:=gb242) (o:=.cells #[.slice A1_0 l1_0.length c1_0,.slice (some ad247) l1_1.length c1_1] 25 (0,0)) (by (with_reducible repeat (first|refine zL ?_ _|refine zM ?_|refine zK ?_ _));refine blk_far ?_ NB242_246.out _;(with_reducible repeat (first|refine zL ?_ _|refine zM ?_|refine zK ?_ _));refine blk_far ?_ NB242_246.out _;(with_reducible repeat (first|refine zL ?_ _|refine zM ?_|refine zK ?_ _));exact BK242.out)):gb248 ≠ gb242));have n11_:=zA ((by rw [hg];exact Nat.ne_of_lt (blk_lt (g:=gb246) (o:=.cells #[.slice A245_0 ((rd_T68 l0_1 x6_3).f0).length c245_0,.slice A245_1 ((rd_T68 l0_1 x6_3).f1).length c245_1] 68 (0,0)) (by (with_reducible repeat (first|refine zL ?_ _|refine zM ?_|refine zK ?_ _));refine zO (cs:=#[.slice A245_0 ((rd_T68 l0_1 x6_3).f0).length c245_0,.slice none 0 0]) ?_ 1 _ rfl;(with_reducible repeat (first|refine zL ?_ _|refine zM ?_|refine zK ?_ _));refine zO (cs:=#[.slice none 0 0,.slice none 0 0]) ?_ 0 _ rfl;(with_reducible repeat (first|refine zL ?_ _|refine zM ?_|refine zK ?_ _));exact BK246.out)):gb246 ≠ gb248));have n12_:=zA ((by rw [hg];exact Nat.ne_of_gt (blk_lt (g:=gb246) (o:=.cells #[.slice A245_0 ((rd_T68 l0_1 x6_3).f0).length c245_0,.slice A245_1 ((rd_T68 l0_1 x6_3).f1).length c245_1] 68 (0,0)) (by (with_reducible repeat (first|refine zL ?_ _|refine zM ?_|refine zK ?_ _));refine zO (cs:=#[.slice A245_0 ((rd_T68 l0_1 x6_3).f0).length c245_0,.slice none 0 0]) ?_ 1 _ rfl;(with_reducible repeat (first|refine zL ?_ _|refine zM ?_|refine zK ?_ _));refine zO (cs:=#[.slice none 0 0,.slice none 0 0]) ?_ 0 _ rfl;(with_reducible repeat (first|refine zL ?_ _|refine zM ?_|refine zK ?_ _));exact BK246.out)):gb248 ≠ gb246));clear BK241;clear BK242;clear BK246;clear HB;have BK241:=n0_;have BK242:=n1_;have BK246:=n2_;have HB:=n3_;have BK248:=n4_;have GW248:=n5_;have GE248:=n6_;have NB241_248:=n7_;have NB248_241:=n8_;have NB242_248:=n9_;have NB248_242:=n10_;have NB246_248:=n11_;have NB248_246:=n12_;clear n0_ n1_ n2_ n3_ n4_ n5_ n6_ n7_ n8_ n9_ n10_ n11_ n12_;clear hb hbox hg;have hnb38:=NB248_241.out;have hnc38:=NB241_248.out;have hnb39:=NB248_242.out;have hnc39:=NB242_248.out;have hnb40:=NB248_246.out;have hnc40:=NB246_248.out;have hcz41_0:w37.cell? ⟨gb248,0,none⟩ = some (.slice none 0 0):=(zI BK248.out 0).trans rfl;have hcz41_1:w37.cell? ⟨gb248,1,none⟩ = some (.slice none 0 0):=(zI BK248.out 1).trans rfl;have hfz41_0:=zJ BK248.out 0;have hfz41_1:=zJ BK248.out 1));go_upto_region 13 with (first|((with_reducible refine zV (N:=7) rfl ?_);(try (refine gate_guard (by rfl) ?_;dsimp only));refine zW ?hg (N:=7) ?hd (cs:=#[.slice none 0 0,.slice none 0 0]) (t:=68) ?hr ?_;(case hd=>rfl);(case hg=>rfl);(case hr=>first|(go_simp;done)|(go_simp;rfl));intro gb246 hg w32 hbox hb;have n0_:=zA (zN (g:=gb241) (o:=.cells #[.slice A0_0 l0_0.length c0_0,.slice (some ad245) l0_1.length c0_1] 25 (0,0)) (by (with_reducible repeat (first|refine zL ?_ _|refine zM ?_|refine zK ?_ _));exact BK241.out) hb);have n1_:=zA (zN (g:=gb242) (o:=.cells #[.slice A1_0 l1_0.length c1_0,.slice A1_1 l1_1.length c1_1] 25 (0,0)) (by (with_reducible repeat (first|refine zL ?_ _|refine zM ?_|refine zK ?_ _));exact BK242.out) hb);have n2_:=zA (zH (by repeat (first|(with_reducible first|exact HB.out|apply zD|apply zC|apply zE|refine zF ?_ GE241.out|refine zF ?_ GE242.out)|exact HB.out)) hb);have n3_:=zA (hbox);have n4_:=zA ((by rw [hg];exact (zG (by repeat (first|(with_reducible first|exact HB.out|apply zD|apply zC|apply zE|refine zF ?_ GE241.out|refine zF ?_ GE242.out)|exact HB.out))):w.heap.size ≤ gb246));have n5_:=zA ((by rw [hg];exact (zG (by repeat (first|(with_reducible first|exact HB.out|apply zD|apply zC|apply zE|refine zF ?_ GE241.out|refine zF ?_ GE242.out)|exact HB.out))):w.heap.size ≤ gb246));have n6_:=zA ((by rw [hg];exact Nat.ne_of_lt (blk_lt (g:=gb241) (o:=.cells #[.slice A0_0 l0_0.length c0_0,.slice (some ad245) l0_1.length c0_1] 25 (0,0)) (by (with_reducible repeat (first|refine zL ?_ _|refine zM ?_|refine zK ?_ _));exact BK241.out)):gb241 ≠ gb246));have n7_:=zA ((by rw [hg];exact Nat.ne_of_gt (blk_lt (g:=gb241) (o:=.cells #[.slice A0_0 l0_0.length c0_0,.slice (some ad245) l0_1.length c0_1] 25 (0,0)) (by (with_reducible repeat (first|refine zL ?_ _|refine zM ?_|refine zK ?_ _));exact BK241.out)):gb246 ≠ gb241));have n8_:=zA ((by rw [hg];exact Nat.ne_of_lt (blk_lt (g:=gb242) (o:=.cells #[.slice A1_0 l1_0.length c1_0,.slice A1_1 l1_1.length c1_1] 25 (0,0)) (by (with_reducible repeat (first|refine zL ?_ _|refine zM ?_|refine zK ?_ _));exact BK242.out)):gb242 ≠ gb246));have n9_:=zA ((by rw [hg];exact Nat.ne_of_gt (blk_lt (g:=gb242) (o:=.cells #[.slice A1_0 l1_0.length c1_0,.slice A1_1 l1_1.length c1_1] 25 (0,0)) (by (with_reducible repeat (first|refine zL ?_ _|refine zM ?_|refine zK ?_ _));exact BK242.out)):gb246 ≠ gb242));clear BK241;clear BK242;clear HB;have BK241:=n0_;have BK242:=n1_;have HB:=n2_;have BK246:=n3_;have GW246:=n4_;have GE246:=n5_;have NB241_246:=n6_;have NB246_241:=n7_;have NB242_246:=n8_;have NB246_242:=n9_;clear n0_ n1_ n2_ n3_ n4_ n5_ n6_ n7_ n8_ n9_;clear hb hbox hg;have hnb33:=NB246_241.out;have hnc33:=NB241_246.out;have hnb34:=NB246_242.out;have hnc34:=NB242_246.out;have hcz35_0:w32.cell? ⟨gb246,0,none⟩ = some (.slice none 0 0):=(zI BK246.out 0).trans rfl;have hcz35_1:w32.cell? ⟨gb246,1,none⟩ = some (.slice none 0 0):=(zI BK246.out 1).trans rfl;have hfz35_0:=zJ BK246.out 0;have hfz35_1:=zJ BK246.out 1;have hcz36_0:w32.cell? ⟨gb242,0,none⟩ = some (.slice A1_0 l1_0.length c1_0):=(zI BK242.out 0).trans rfl;have hcz36_1:w32.cell? ⟨gb242,1,none⟩ = some (.slice A1_1 l1_1.length c1_1):=(zI BK242.out 1).trans rfl;have hfz36_0:=zJ BK242.out 0;have hfz36_1:=zJ BK242.out 1;have p247:0 ≤ (x6_3:Int):=zP (by assumption);have q247:x6_3 < (l1_1.length:Int):=zP (by assumption);obtain ⟨ad247,A247_0,c247_0,A247_1,c247_1,e247,hx247_0,hx247_1,hl247_0,hi247_0,hl247_1,hi247_1⟩:=at_T68 HR1_1.out x6_3 p247 q247;cases e247;have hn247_0:ad247.block ≠ gb246:=Nat.ne_of_lt (zS (by have:=zB _ _ hx247_0;first|rwa [add_block] at this|exact this) GW246.out);have hn247_1:ad247.block ≠ gb246:=Nat.ne_of_lt (zS (by have:=zB _ _ hx247_0;first|rwa [add_block] at this|exact this) GW246.out);replace hx247_0:=(HB.out.cell (zB w _ hx247_0)).trans hx247_0;replace hx247_1:=(HB.out.cell (zB w _ hx247_1)).trans hx247_1;have HR247_0:=zA hi247_0;have HC247_0:=zA hl247_0;clear hi247_0 hl247_0;have HR247_1:=zA hi247_1;have HC247_1:=zA hl247_1;clear hi247_1 hl247_1;replace hx247_0:=(cell_far (p:=⟨gb246,0,none⟩) (by first|(rw [add_block];exact hn247_0)|(show (Addr.add _ _).block ≠ _;rw [add_block];exact hn247_0)|exact hn247_0) (.slice A245_0 ((rd_T68 l0_1 x6_3).f0).length c245_0)).trans hx247_0;replace hx247_1:=(cell_far (p:=⟨gb246,0,none⟩) (by first|(rw [add_block];exact hn247_0)|(show (Addr.add _ _).block ≠ _;rw [add_block];exact hn247_0)|exact hn247_0) (.slice A245_0 ((rd_T68 l0_1 x6_3).f0).length c245_0)).trans hx247_1;replace hx247_0:=(cell_far (p:=⟨gb246,1,none⟩) (by first|(rw [add_block];exact hn247_1)|(show (Addr.add _ _).block ≠ _;rw [add_block];exact hn247_1)|exact hn247_1) (.slice A245_1 ((rd_T68 l0_1 x6_3).f1).length c245_1)).trans hx247_0;replace hx247_1:=(cell_far (p:=⟨gb246,1,none⟩) (by first|(rw [add_block];exact hn247_1)|(show (Addr.add _ _).block ≠ _;rw [add_block];exact hn247_1)|exact hn247_1) (.slice A245_1 ((rd_T68 l0_1 x6_3).f1).length c245_1)).trans hx247_1;(try have hy247_0:=fun (n_:Nat)=>(show ((((w32.drewN n_).setCell ⟨gb246,0,none⟩ (.slice A245_0 ((rd_T68 l0_1 x6_3).f0).length c245_0)).setCell ⟨gb246,1,none⟩ (.slice A245_1 ((rd_T68 l0_1 x6_3).f1).length c245_1))).cell? _ = some _ from hx247_0));(try have hy247_1:=fun (n_:Nat)=>(show ((((w32.drewN n_).setCell ⟨gb246,0,none⟩ (.slice A245_0 ((rd_T68 l0_1 x6_3).f0).length c245_0)).setCell ⟨gb246,1,none⟩ (.slice A245_1 ((rd_T68 l0_1 x6_3).f1).length c245_1))).cell? _ = some _ from hx247_1));clear hn247_0;clear hn247_1;replace p247:=eq_true p247;replace q247:=eq_true q247)|((with_reducible refine zV (N:=8) rfl ?_);(try (refine gate_guard (by rfl) ?_;dsimp only));refine zW ?hg (N:=8) ?hd (cs:=#[.slice none 0 0,.slice none 0 0]) (t:=68) ?hr ?_;(case hd=>rfl);(case hg=>rfl);(case hr=>first|(go_simp;done)|(go_simp;rfl));intro gb248 hg w37 hbox hb;have n0_:=zA (zN (g:=gb241) (o:=.cells #[.slice A0_0 l0_0.length c0_0,.slice (some ad245) l0_1.length c0_1] 25 (0,0)) (by (with_reducible repeat (first|refine zL ?_ _|refine zM ?_|refine zK ?_ _));refine blk_far ?_ NB241_246.out _;(with_reducible repeat (first|refine zL ?_ _|refine zM ?_|refine zK ?_ _));refine blk_far ?_ NB241_246.out _;(with_reducible repeat (first|refine zL ?_ _|refine zM ?_|refine zK ?_ _));exact BK241.out) hb);have n1_:=zA (zN (g:=gb242) (o:=.cells #[.slice A1_0 l1_0.length c1_0,.slice (some ad247) l1_1.length c1_1] 25 (0,0)) (by (with_reducible repeat (first|refine zL ?_ _|refine zM ?_|refine zK ?_ _));refine blk_far ?_ NB242_246.out _;(with_reducible repeat (first|refine zL ?_ _|refine zM ?_|refine zK ?_ _));refine blk_far ?_ NB242_246.out _;(with_reducible repeat (first|refine zL ?_ _|refine zM ?_|refine zK ?_ _));exact BK242.out) hb);have n2_:=zA (zN (g:=gb246) (o:=.cells #[.slice A245_0 ((rd_T68 l0_1 x6_3).f0).length c245_0,.slice A245_1 ((rd_T68 l0_1 x6_3).f1).length c245_1] 68 (0,0)) (by (with_reducible repeat (first|refine zL ?_ _|refine zM ?_|refine zK ?_ _));refine zO (cs:=#[.slice A245_0 ((rd_T68 l0_1 x6_3).f0).length c245_0,.slice none 0 0]) ?_ 1 _ rfl;(with_reducible repeat (first|refine zL ?_ _|refine zM ?_|refine zK ?_ _));refine zO (cs:=#[.slice none 0 0,.slice none 0 0]) ?_ 0 _ rfl;(with_reducible repeat (first|refine zL ?_ _|refine zM ?_|refine zK ?_ _));exact BK246.out) hb);have n3_:=zA (zH (by repeat (first|(with_reducible first|exact HB.out|apply zD|apply zC|apply zE|refine zF ?_ GE241.out|refine zF ?_ GE242.out|refine zF ?_ GE246.out)|exact HB.out)) hb);have n4_:=zA (hbox);have n5_:=zA ((by rw [hg];exact (zG (by repeat (first|(with_reducible first|exact HB.out|apply zD|apply zC|apply zE|refine zF ?_ GE241.out|refine zF ?_ GE242.out|refine zF ?_ GE246.out)|exact HB.out))):w.heap.size ≤ gb248));have n6_:=zA ((by rw [hg];exact (zG (by repeat (first|(with_reducible first|exact HB.out|apply zD|apply zC|apply zE|refine zF ?_ GE241.out|refine zF ?_ GE242.out|refine zF ?_ GE246.out)|exact HB.out))):w.heap.size ≤ gb248));have n7_:=zA ((by rw [hg];exact Nat.ne_of_lt (blk_lt (g:=gb241) (o:=.cells #[.slice A0_0 l0_0.length c0_0,.slice (some ad245) l0_1.length c0_1] 25 (0,0)) (by (with_reducible repeat (first|refine zL ?_ _|refine zM ?_|refine zK ?_ _));refine blk_far ?_ NB241_246.out _;(with_reducible repeat (first|refine zL ?_ _|refine zM ?_|refine zK ?_ _));refine blk_far ?_ NB241_246.out _;(with_reducible repeat (first|refine zL ?_ _|refine zM ?_|refine zK ?_ _));exact BK241.out)):gb241 ≠ gb248));have n8_:=zA ((by rw [hg];exact Nat.ne_of_gt (blk_lt (g:=gb241) (o:=.cells #[.slice A0_0 l0_0.length c0_0,.slice (some ad245) l0_1.length c0_1] 25 (0,0)) (by (with_reducible repeat (first|refine zL ?_ _|refine zM ?_|refine zK ?_ _));refine blk_far ?_ NB241_246.out _;(with_reducible repeat (first|refine zL ?_ _|refine zM ?_|refine zK ?_ _));refine blk_far ?_ NB241_246.out _;(with_reducible repeat (first|refine zL ?_ _|refine zM ?_|refine zK ?_ _));exact BK241.out)):gb248 ≠ gb241));have n9_:=zA ((by rw [hg];exact Nat.ne_of_lt (blk_lt (g:=gb242) (o:=.cells #[.slice A1_0 l1_0.length c1_0,.slice (some ad247) l1_1.length c1_1] 25 (0,0)) (by (with_reducible repeat (first|refine zL ?_ _|refine zM ?_|refine zK ?_ _));refine blk_far ?_ NB242_246.out _;(with_reducible repeat (first|refine zL ?_ _|refine zM ?_|refine zK ?_ _));refine blk_far ?_ NB242_246.out _;(with_reducible repeat (first|refine zL ?_ _|refine zM ?_|refine zK ?_ _));exact BK242.out)):gb242 ≠ gb248));have n10_:=zA ((by rw [hg];exact Nat.ne_of_gt (blk_lt (g:=gb242) (o:=.cells #[.slice A1_0 l1_0.length c1_0,.slice (some ad247) l1_1.length c1_1] 25 (0,0)) (by (with_reducible repeat (first|refine zL ?_ _|refine zM ?_|refine zK ?_ _));refine blk_far ?_ NB242_246.out _;(with_reducible repeat (first|refine zL ?_ _|refine zM ?_|refine zK ?_ _));refine blk_far ?_ NB242_246.out _;(with_reducible repeat (first|refine zL ?_ _|refine zM ?_|refine zK ?_ _));exact BK242.out)):gb248 ≠ gb242));have n11_:=zA ((by rw [hg];exact Nat.ne_of_lt (blk_lt (g:=gb246) (o:=.cells #[.slice A245_0 ((rd_T68 l0_1 x6_3).f0).length c245_0,.slice A245_1 ((rd_T68 l0_1 x6_3).f1).length c245_1] 68 (0,0)) (by (with_reducible repeat (first|refine zL ?_ _|refine zM ?_|refine zK ?_ _));refine zO (cs:=#[.slice A245_0 ((rd_T68 l0_1 x6_3).f0).length c245_0,.slice none 0 0]) ?_ 1 _ rfl;(with_reducible repeat (first|refine zL ?_ _|refine zM ?_|refine zK ?_ _));refine zO (cs:=#[.slice none 0 0,.slice none 0 0]) ?_ 0 _ rfl;(with_reducible repeat (first|refine zL ?_ _|refine zM ?_|refine zK ?_ _));exact BK246.out)):gb246 ≠ gb248));have n12_:=zA ((by rw [hg];exact Nat.ne_of_gt (blk_lt (g:=gb246) (o:=.cells #[.slice A245_0 ((rd_T68 l0_1 x6_3).f0).length c245_0,.slice A245_1 ((rd_T68 l0_1 x6_3).f1).length c245_1] 68 (0,0)) (by (with_reducible repeat (first|refine zL ?_ _|refine zM ?_|refine zK ?_ _));refine zO (cs:=#[.slice A245_0 ((rd_T68 l0_1 x6_3).f0).length c245_0,.slice none 0 0]) ?_ 1 _ rfl;(with_reducible repeat (first|refine zL ?_ _|refine zM ?_|refine zK ?_ _));refine zO (cs:=#[.slice none 0 0,.slice none 0 0]) ?_ 0 _ rfl;(with_reducible repeat (first|refine zL ?_ _|refine zM ?_|refine zK ?_ _));exact BK246.out)):gb248 ≠ gb246));clear BK241;clear BK242;clear BK246;clear HB;have BK241:=n0_;have BK242:=n1_;have BK246:=n2_;have HB:=n3_;have BK248:=n4_;have GW248:=n5_;have GE248:=n6_;have NB241_248:=n7_;have NB248_241:=n8_;have NB242_248:=n9_;have NB248_242:=n10_;have NB246_248:=n11_;have NB248_246:=n12_;clear n0_ n1_ n2_ n3_ n4_ n5_ n6_ n7_ n8_ n9_ n10_ n11_ n12_;clear hb hbox hg;have hnb38:=NB248_241.out;have hnc38:=NB241_248.out;have hnb39:=NB248_242.out;have hnc39:=NB242_248.out;have hnb40:=NB248_246.out;have hnc40:=NB246_248.out;have hcz41_0:w37.cell? ⟨gb248,0,none⟩ = some (.slice none 0 0):=(zI BK248.out 0).trans rfl;have hcz41_1:w37.cell? ⟨gb248,1,none⟩ = some (.slice none 0 0):=(zI BK248.out 1).trans rfl;have hfz41_0:=zJ BK248.out 0;have hfz41_1:=zJ BK248.out 1)))
            (try simp only [Act.put,zX,zY,zZ])
            go_cut [75] (fun v75 wc=>∃ (kq:Nat) (x75_28:Bool),v75 = .bool x75_28∧Aside0 (foretelllaw_sameModel.j3 kq x6_3 x75_28 l0_0 l0_1 l1_0 l1_1 ((rd_T68 l0_1 x6_3).f0) ((rd_T68 l0_1 x6_3).f1) ((rd_T68 l1_1 x6_3).f0) ((rd_T68 l1_1 x6_3).f1) = some r)∧Aside0 (kq ≤ k3)∧Aside0 (wc.heap[gb241]? = some (.cells #[(.slice A0_0 l0_0.length c0_0),(.slice (some ad245) l0_1.length c0_1)] 25 (0,0)))∧Aside0 (wc.heap[gb242]? = some (.cells #[(.slice A1_0 l1_0.length c1_0),(.slice (some ad247) l1_1.length c1_1)] 25 (0,0)))∧Aside0 (wc.heap[gb246]? = some (.cells #[(.slice A245_0 ((rd_T68 l0_1 x6_3).f0).length c245_0),(.slice A245_1 ((rd_T68 l0_1 x6_3).f1).length c245_1)] 68 (0,0)))∧Aside0 (wc.heap[gb248]? = some (.cells #[(.slice A247_0 ((rd_T68 l1_1 x6_3).f0).length c247_0),(.slice A247_1 ((rd_T68 l1_1 x6_3).f1).length c247_1)] 68 (0,0)))∧Aside0 (Below w.heap.size w wc))
            case first =>
             have H:=HC29.out
             clear HC29
             replace H:=zb.mp H
             obtain ⟨t249,A420,H⟩:=H
             replace H:(if t249 = true then (foretelllaw_sameModel.j3 k3 x6_3 ((((rd_T68 l0_1 x6_3).f1).length:Int) != (((rd_T68 l1_1 x6_3).f1).length:Int)) l0_0 l0_1 l1_0 l1_1 ((rd_T68 l0_1 x6_3).f0) ((rd_T68 l0_1 x6_3).f1) ((rd_T68 l1_1 x6_3).f0) ((rd_T68 l1_1 x6_3).f1)) else (foretelllaw_sameModel.j3 k3 x6_3 true l0_0 l0_1 l1_0 l1_1 ((rd_T68 l0_1 x6_3).f0) ((rd_T68 l0_1 x6_3).f1) ((rd_T68 l1_1 x6_3).f0) ((rd_T68 l1_1 x6_3).f1))) = some r:=H
             have A42:=zA A420
             clear A420
             by_cases c43:t249 = true
             ·subst c43
              have H1:(foretelllaw_sameModel.j3 k3 x6_3 ((((rd_T68 l0_1 x6_3).f1).length:Int) != (((rd_T68 l1_1 x6_3).f1).length:Int)) l0_0 l0_1 l1_0 l1_1 ((rd_T68 l0_1 x6_3).f0) ((rd_T68 l0_1 x6_3).f1) ((rd_T68 l1_1 x6_3).f0) ((rd_T68 l1_1 x6_3).f1)) = some r:=by rw [if_pos rfl] at H;exact H
              clear H
              have H:=H1
              clear H1
              have H':=zA H
              clear H
              have hnb44:=NB246_241.out
              have hnc44:=NB241_246.out
              have hnb45:=NB246_242.out
              have hnc45:=NB242_246.out
              have hnb46:=NB246_248.out
              have hnc46:=NB248_246.out
              have hcz47_0:w37.cell? ⟨gb246,0,none⟩ = some (.slice A245_0 ((rd_T68 l0_1 x6_3).f0).length c245_0):=(zI BK246.out 0).trans rfl
              have hcz47_1:w37.cell? ⟨gb246,1,none⟩ = some (.slice A245_1 ((rd_T68 l0_1 x6_3).f1).length c245_1):=(zI BK246.out 1).trans rfl
              have hfz47_0:=zJ BK246.out 0
              have hfz47_1:=zJ BK246.out 1
              have hnb48:=NB248_241.out
              have hnc48:=NB241_248.out
              have hnb49:=NB248_242.out
              have hnc49:=NB242_248.out
              have hcz50_0:w37.cell? ⟨gb248,0,none⟩ = some (.slice none 0 0):=(zI BK248.out 0).trans rfl
              have hcz50_1:w37.cell? ⟨gb248,1,none⟩ = some (.slice none 0 0):=(zI BK248.out 1).trans rfl
              have hfz50_0:=zJ BK248.out 0
              have hfz50_1:=zJ BK248.out 1
              go_wp2_with (first|(go_at_call 52;(with_reducible refine (foretelllaw_sameOps.calls k3 _ _ ((rd_T68 l0_1 x6_3).f0) _ _ ((rd_T68 l1_1 x6_3).f0) true _ ?side1 ?side2 ?side3 ?side4 A42.out).mono ?_);(case side1=>exact zT HR245_0.out (by repeat (first|(with_reducible first|exact HB.out|apply zD|apply zC|apply zE|refine zF ?_ GE241.out|refine zF ?_ GE242.out|refine zF ?_ GE246.out|refine zF ?_ GE248.out)|exact HB.out)));(case side2=>exact HC245_0.out);(case side3=>exact zT HR247_0.out (by repeat (first|(with_reducible first|exact HB.out|apply zD|apply zC|apply zE|refine zF ?_ GE241.out|refine zF ?_ GE242.out|refine zF ?_ GE246.out|refine zF ?_ GE248.out)|exact HB.out)));(case side4=>exact HC247_0.out);rintro e w' ⟨rfl,⟨nd,rfl⟩⟩;(try first|exact ⟨rfl,_,World.drewN_drewN _ _ _⟩|exact ⟨rfl,_,Eq.trans (World.drewN_drewN _ _ _) (congrArg (World.drewN _) (Nat.add_assoc _ _ _))⟩)))
              repeat (go_quiet (first|(go_at_call 52;(with_reducible refine (foretelllaw_sameOps.calls k3 _ _ ((rd_T68 l0_1 x6_3).f0) _ _ ((rd_T68 l1_1 x6_3).f0) true _ ?side1 ?side2 ?side3 ?side4 A42.out).mono ?_);(case side1=>exact zT HR245_0.out (by repeat (first|(with_reducible first|exact HB.out|apply zD|apply zC|apply zE|refine zF ?_ GE241.out|refine zF ?_ GE242.out|refine zF ?_ GE246.out|refine zF ?_ GE248.out)|exact HB.out)));(case side2=>exact HC245_0.out);(case side3=>exact zT HR247_0.out (by repeat (first|(with_reducible first|exact HB.out|apply zD|apply zC|apply zE|refine zF ?_ GE241.out|refine zF ?_ GE242.out|refine zF ?_ GE246.out|refine zF ?_ GE248.out)|exact HB.out)));(case side4=>exact HC247_0.out);rintro e w' ⟨rfl,⟨nd,rfl⟩⟩;(try first|exact ⟨rfl,_,World.drewN_drewN _ _ _⟩|exact ⟨rfl,_,Eq.trans (World.drewN_drewN _ _ _) (congrArg (World.drewN _) (Nat.add_assoc _ _ _))⟩)));try go_wp2_with (first|(go_at_call 52;(with_reducible refine (foretelllaw_sameOps.calls k3 _ _ ((rd_T68 l0_1 x6_3).f0) _ _ ((rd_T68 l1_1 x6_3).f0) true _ ?side1 ?side2 ?side3 ?side4 A42.out).mono ?_);(case side1=>exact zT HR245_0.out (by repeat (first|(with_reducible first|exact HB.out|apply zD|apply zC|apply zE|refine zF ?_ GE241.out|refine zF ?_ GE242.out|refine zF ?_ GE246.out|refine zF ?_ GE248.out)|exact HB.out)));(case side2=>exact HC245_0.out);(case side3=>exact zT HR247_0.out (by repeat (first|(with_reducible first|exact HB.out|apply zD|apply zC|apply zE|refine zF ?_ GE241.out|refine zF ?_ GE242.out|refine zF ?_ GE246.out|refine zF ?_ GE248.out)|exact HB.out)));(case side4=>exact HC247_0.out);rintro e w' ⟨rfl,⟨nd,rfl⟩⟩;(try first|exact ⟨rfl,_,World.drewN_drewN _ _ _⟩|exact ⟨rfl,_,Eq.trans (World.drewN_drewN _ _ _) (congrArg (World.drewN _) (Nat.add_assoc _ _ _))⟩))))
              go_meet
              case rel=>exact ⟨_,(((((rd_T68 l0_1 x6_3).f1).length:Int) != (((rd_T68 l1_1 x6_3).f1).length:Int))),(by first|rfl|(simp;done)|(simp [*];done)),H',⟨by have:=HJ2.out;have:=HK2.out;have:=HK3.out;first|omega|exact Nat.le_refl _⟩,⟨by (with_reducible repeat (first|refine zL ?_ _|refine zM ?_|refine zK ?_ _));refine blk_far ?_ NB241_248.out _;(with_reducible repeat (first|refine zL ?_ _|refine zM ?_|refine zK ?_ _));refine blk_far ?_ NB241_248.out _;(with_reducible repeat (first|refine zL ?_ _|refine zM ?_|refine zK ?_ _));exact BK241.out⟩,⟨by (with_reducible repeat (first|refine zL ?_ _|refine zM ?_|refine zK ?_ _));refine blk_far ?_ NB242_248.out _;(with_reducible repeat (first|refine zL ?_ _|refine zM ?_|refine zK ?_ _));refine blk_far ?_ NB242_248.out _;(with_reducible repeat (first|refine zL ?_ _|refine zM ?_|refine zK ?_ _));exact BK242.out⟩,⟨by (with_reducible repeat (first|refine zL ?_ _|refine zM ?_|refine zK ?_ _));refine blk_far ?_ NB246_248.out _;(with_reducible repeat (first|refine zL ?_ _|refine zM ?_|refine zK ?_ _));refine blk_far ?_ NB246_248.out _;(with_reducible repeat (first|refine zL ?_ _|refine zM ?_|refine zK ?_ _));exact BK246.out⟩,⟨by (with_reducible repeat (first|refine zL ?_ _|refine zM ?_|refine zK ?_ _));refine zO (cs:=#[.slice A247_0 ((rd_T68 l1_1 x6_3).f0).length c247_0,.slice none 0 0]) ?_ 1 _ rfl;(with_reducible repeat (first|refine zL ?_ _|refine zM ?_|refine zK ?_ _));refine zO (cs:=#[.slice none 0 0,.slice none 0 0]) ?_ 0 _ rfl;(with_reducible repeat (first|refine zL ?_ _|refine zM ?_|refine zK ?_ _));exact BK248.out⟩,⟨by repeat (first|(with_reducible first|exact HB.out|apply zD|apply zC|apply zE|refine zF ?_ GE241.out|refine zF ?_ GE242.out|refine zF ?_ GE246.out|refine zF ?_ GE248.out)|exact HB.out)⟩⟩
             ·replace c43:=Bool.eq_false_iff.mpr c43
              subst c43
              have H1:(foretelllaw_sameModel.j3 k3 x6_3 true l0_0 l0_1 l1_0 l1_1 ((rd_T68 l0_1 x6_3).f0) ((rd_T68 l0_1 x6_3).f1) ((rd_T68 l1_1 x6_3).f0) ((rd_T68 l1_1 x6_3).f1)) = some r:=by rw [if_neg (show ¬ (false = true) by decide)] at H;exact H
              clear H
              have H:=H1
              clear H1
              have H':=zA H
              clear H
              have hnb51:=NB246_241.out
              have hnc51:=NB241_246.out
              have hnb52:=NB246_242.out
              have hnc52:=NB242_246.out
              have hnb53:=NB246_248.out
              have hnc53:=NB248_246.out
              have hcz54_0:w37.cell? ⟨gb246,0,none⟩ = some (.slice A245_0 ((rd_T68 l0_1 x6_3).f0).length c245_0):=(zI BK246.out 0).trans rfl
              have hcz54_1:w37.cell? ⟨gb246,1,none⟩ = some (.slice A245_1 ((rd_T68 l0_1 x6_3).f1).length c245_1):=(zI BK246.out 1).trans rfl
              have hfz54_0:=zJ BK246.out 0
              have hfz54_1:=zJ BK246.out 1
              have hnb55:=NB248_241.out
              have hnc55:=NB241_248.out
              have hnb56:=NB248_242.out
              have hnc56:=NB242_248.out
              have hcz57_0:w37.cell? ⟨gb248,0,none⟩ = some (.slice none 0 0):=(zI BK248.out 0).trans rfl
              have hcz57_1:w37.cell? ⟨gb248,1,none⟩ = some (.slice none 0 0):=(zI BK248.out 1).trans rfl
              have hfz57_0:=zJ BK248.out 0
              have hfz57_1:=zJ BK248.out 1
              go_wp2_with (first|(go_at_call 52;(with_reducible refine (foretelllaw_sameOps.calls k3 _ _ ((rd_T68 l0_1 x6_3).f0) _ _ ((rd_T68 l1_1 x6_3).f0) false _ ?side1 ?side2 ?side3 ?side4 A42.out).mono ?_);(case side1=>exact zT HR245_0.out (by repeat (first|(with_reducible first|exact HB.out|apply zD|apply zC|apply zE|refine zF ?_ GE241.out|refine zF ?_ GE242.out|refine zF ?_ GE246.out|refine zF ?_ GE248.out)|exact HB.out)));(case side2=>exact HC245_0.out);(case side3=>exact zT HR247_0.out (by repeat (first|(with_reducible first|exact HB.out|apply zD|apply zC|apply zE|refine zF ?_ GE241.out|refine zF ?_ GE242.out|refine zF ?_ GE246.out|refine zF ?_ GE248.out)|exact HB.out)));(case side4=>exact HC247_0.out);rintro e w' ⟨rfl,⟨nd,rfl⟩⟩;(try first|exact ⟨rfl,_,World.drewN_drewN _ _ _⟩|exact ⟨rfl,_,Eq.trans (World.drewN_drewN _ _ _) (congrArg (World.drewN _) (Nat.add_assoc _ _ _))⟩)))
              repeat (go_quiet (first|(go_at_call 52;(with_reducible refine (foretelllaw_sameOps.calls k3 _ _ ((rd_T68 l0_1 x6_3).f0) _ _ ((rd_T68 l1_1 x6_3).f0) false _ ?side1 ?side2 ?side3 ?side4 A42.out).mono ?_);(case side1=>exact zT HR245_0.out (by repeat (first|(with_reducible first|exact HB.out|apply zD|apply zC|apply zE|refine zF ?_ GE241.out|refine zF ?_ GE242.out|refine zF ?_ GE246.out|refine zF ?_ GE248.out)|exact HB.out)));(case side2=>exact HC245_0.out);(case side3=>exact zT HR247_0.out (by repeat (first|(with_reducible first|exact HB.out|apply zD|apply zC|apply zE|refine zF ?_ GE241.out|refine zF ?_ GE242.out|refine zF ?_ GE246.out|refine zF ?_ GE248.out)|exact HB.out)));(case side4=>exact HC247_0.out);rintro e w' ⟨rfl,⟨nd,rfl⟩⟩;(try first|exact ⟨rfl,_,World.drewN_drewN _ _ _⟩|exact ⟨rfl,_,Eq.trans (World.drewN_drewN _ _ _) (congrArg (World.drewN _) (Nat.add_assoc _ _ _))⟩)));try go_wp2_with (first|(go_at_call 52;(with_reducible refine (foretelllaw_sameOps.calls k3 _ _ ((rd_T68 l0_1 x6_3).f0) _ _ ((rd_T68 l1_1 x6_3).f0) false _ ?side1 ?side2 ?side3 ?side4 A42.out).mono ?_);(case side1=>exact zT HR245_0.out (by repeat (first|(with_reducible first|exact HB.out|apply zD|apply zC|apply zE|refine zF ?_ GE241.out|refine zF ?_ GE242.out|refine zF ?_ GE246.out|refine zF ?_ GE248.out)|exact HB.out)));(case side2=>exact HC245_0.out);(case side3=>exact zT HR247_0.out (by repeat (first|(with_reducible first|exact HB.out|apply zD|apply zC|apply zE|refine zF ?_ GE241.out|refine zF ?_ GE242.out|refine zF ?_ GE246.out|refine zF ?_ GE248.out)|exact HB.out)));(case side4=>exact HC247_0.out);rintro e w' ⟨rfl,⟨nd,rfl⟩⟩;(try first|exact ⟨rfl,_,World.drewN_drewN _ _ _⟩|exact ⟨rfl,_,Eq.trans (World.drewN_drewN _ _ _) (congrArg (World.drewN _) (Nat.add_assoc _ _ _))⟩))))
              go_meet
              case rel=>exact ⟨_,(true),(by first|rfl|(simp;done)|(simp [*];done)),H',⟨by have:=HJ2.out;have:=HK2.out;have:=HK3.out;first|omega|exact Nat.le_refl _⟩,⟨by (with_reducible repeat (first|refine zL ?_ _|refine zM ?_|refine zK ?_ _));refine blk_far ?_ NB241_248.out _;(with_reducible repeat (first|refine zL ?_ _|refine zM ?_|refine zK ?_ _));refine blk_far ?_ NB241_248.out _;(with_reducible repeat (first|refine zL ?_ _|refine zM ?_|refine zK ?_ _));exact BK241.out⟩,⟨by (with_reducible repeat (first|refine zL ?_ _|refine zM ?_|refine zK ?_ _));refine blk_far ?_ NB242_248.out _;(with_reducible repeat (first|refine zL ?_ _|refine zM ?_|refine zK ?_ _));refine blk_far ?_ NB242_248.out _;(with_reducible repeat (first|refine zL ?_ _|refine zM ?_|refine zK ?_ _));exact BK242.out⟩,⟨by (with_reducible repeat (first|refine zL ?_ _|refine zM ?_|refine zK ?_ _));refine blk_far ?_ NB246_248.out _;(with_reducible repeat (first|refine zL ?_ _|refine zM ?_|refine zK ?_ _));refine blk_far ?_ NB246_248.out _;(with_reducible repeat (first|refine zL ?_ _|refine zM ?_|refine zK ?_ _));exact BK246.out⟩,⟨by (with_reducible repeat (first|refine zL ?_ _|refine zM ?_|refine zK ?_ _));refine zO (cs:=#[.slice A247_0 ((rd_T68 l1_1 x6_3).f0).length c247_0,.slice none 0 0]) ?_ 1 _ rfl;(with_reducible repeat (first|refine zL ?_ _|refine zM ?_|refine zK ?_ _));refine zO (cs:=#[.slice none 0 0,.slice none 0 0]) ?_ 0 _ rfl;(with_reducible repeat (first|refine zL ?_ _|refine zM ?_|refine zK ?_ _));exact BK248.out⟩,⟨by repeat (first|(with_reducible first|exact HB.out|apply zD|apply zC|apply zE|refine zF ?_ GE241.out|refine zF ?_ GE242.out|refine zF ?_ GE246.out|refine zF ?_ GE248.out)|exact HB.out)⟩⟩
            case rest =>
             clear HC29
             try clear c1
             try clear c2
             try clear p2
             try clear q2
             try clear hx2
             try clear c3
             try clear c4
             try clear c5
             try clear c6
             try clear c6b0
             try clear c6b1
             try clear c6b2
             try clear p6
             try clear c7
             try clear c10
             try clear c13
             try clear c14
             try clear c14b0
             try clear c15
             try clear c15b0
             try clear c16
             try clear c16b0
             try clear c17
             try clear c17b0
             try clear c18
             try clear c21
             try clear c24
             try clear p24
             try clear q24
             try clear hx24
             try clear c26
             try clear c26b0
             try clear c27
             try clear c27b0
             try clear c28
             try clear c28b0
             try clear c30
             try clear c33
             try clear c34
             try clear c38
             try clear c39
             try clear c40
             try clear c43
             try clear c44
             try clear c45
             try clear c46
             try clear c48
             try clear c49
             try clear c51
             try clear c52
             try clear c53
             try clear c55
             try clear c56
             try clear hcz11_0
             try clear hcz11_1
             try clear hcz12_0
             try clear hcz12_1
             try clear hcz19_0
             try clear hcz19_1
             try clear hcz20_0
             try clear hcz20_1
             try clear hcz22_0
             try clear hcz22_1
             try clear hcz23_0
             try clear hcz23_1
             try clear hcz25_0
             try clear hcz25_1
             try clear hcz31_0
             try clear hcz31_1
             try clear hcz35_0
             try clear hcz35_1
             try clear hcz36_0
             try clear hcz36_1
             try clear hcz41_0
             try clear hcz41_1
             try clear hcz47_0
             try clear hcz47_1
             try clear hcz50_0
             try clear hcz50_1
             try clear hcz54_0
             try clear hcz54_1
             try clear hcz57_0
             try clear hcz57_1
             try clear hcz8_0
             try clear hcz8_1
             try clear hcz9_0
             try clear hcz9_1
             try clear hfz11_0
             try clear hfz11_1
             try clear hfz12_0
             try clear hfz12_1
             try clear hfz19_0
             try clear hfz19_1
             try clear hfz20_0
             try clear hfz20_1
             try clear hfz22_0
             try clear hfz22_1
             try clear hfz23_0
             try clear hfz23_1
             try clear hfz25_0
             try clear hfz25_1
             try clear hfz31_0
             try clear hfz31_1
             try clear hfz35_0
             try clear hfz35_1
             try clear hfz36_0
             try clear hfz36_1
             try clear hfz41_0
             try clear hfz41_1
             try clear hfz47_0
             try clear hfz47_1
             try clear hfz50_0
             try clear hfz50_1
             try clear hfz54_0
             try clear hfz54_1
             try clear hfz57_0
             try clear hfz57_1
             try clear hfz8_0
             try clear hfz8_1
             try clear hfz9_0
             try clear hfz9_1
             try clear hx243_0
             try clear hx243_1
             try clear hx243_2
             try clear hx243_3
             try clear hx244_0
             try clear hx244_1
             try clear hx244_2
             try clear hx244_3
             try clear hx245_0
             try clear hx245_1
             try clear hx247_0
             try clear hx247_1
             try clear p2
             try clear p24
             try clear p243
             try clear p244
             try clear p245
             try clear p247
             try clear p6
             try clear q2
             try clear q24
             try clear q243
             try clear q244
             try clear q245
             try clear q247
             obtain ⟨kq,x75_28,rfl,HA,HJ28,BK241,BK242,BK246,BK248,HB⟩:=hcut
             cases kq with
             | zero=>exact absurd HA.out (by simp [foretelllaw_sameModel.j3])
             | succ kj28 =>
              have H:=HA.out
              clear HA
              simp only [foretelllaw_sameModel.j3] at H
              by_cases c58:x75_28 = true
              ·subst c58
               have H1:(some false) = some r:=by rw [if_pos rfl] at H;exact H
               clear H
               have H:=H1
               clear H1
               obtain rfl:=Option.some.inj H
               go_wp2
               repeat (go_quiet (fail);try go_wp2)
               go_ret
               exact ⟨by first|rfl|(simp [errW_none,errW_some] <;> rfl)|(simp [*,errW_none,errW_some] <;> rfl),by repeat (first|(with_reducible first|exact HB.out|apply zD|apply zC|apply zE|refine zF ?_ GE241.out|refine zF ?_ GE242.out|refine zF ?_ GE246.out|refine zF ?_ GE248.out)|exact HB.out)⟩
              ·replace c58:=Bool.eq_false_iff.mpr c58
               subst c58
               have H1:(foretelllaw_sameModel.l2 kj28 x6_3 0 l0_0 l0_1 l1_0 l1_1 ((rd_T68 l0_1 x6_3).f0) ((rd_T68 l0_1 x6_3).f1) ((rd_T68 l1_1 x6_3).f0) ((rd_T68 l1_1 x6_3).f1)) = some r:=by rw [if_neg (show ¬ (false = true) by decide)] at H;exact H
               clear H
               have H:=H1
               clear H1
               have H':=zA H
               clear H
               go_wp2
               repeat (go_quiet (fail);try go_wp2)
               go_loopg [9] kj28 (fun kq v9 w'=>∃ (x9_5:Int),v9 = .int .i64 x9_5∧Aside0 (foretelllaw_sameModel.l2 kq x6_3 x9_5 l0_0 l0_1 l1_0 l1_1 ((rd_T68 l0_1 x6_3).f0) ((rd_T68 l0_1 x6_3).f1) ((rd_T68 l1_1 x6_3).f0) ((rd_T68 l1_1 x6_3).f1) = some r)∧Aside0 (kq ≤ kj28)∧Aside0 (w'.heap[gb241]? = some (.cells #[(.slice A0_0 l0_0.length c0_0),(.slice (some ad245) l0_1.length c0_1)] 25 (0,0)))∧Aside0 (w'.heap[gb242]? = some (.cells #[(.slice A1_0 l1_0.length c1_0),(.slice (some ad247) l1_1.length c1_1)] 25 (0,0)))∧Aside0 (w'.heap[gb246]? = some (.cells #[(.slice A245_0 ((rd_T68 l0_1 x6_3).f0).length c245_0),(.slice A245_1 ((rd_T68 l0_1 x6_3).f1).length c245_1)] 68 (0,0)))∧Aside0 (w'.heap[gb248]? = some (.cells #[(.slice A247_0 ((rd_T68 l1_1 x6_3).f0).length c247_0),(.slice A247_1 ((rd_T68 l1_1 x6_3).f1).length c247_1)] 68 (0,0)))∧Aside0 (Below w.heap.size w w'))
               case atStart=>exact ⟨(0),(by first|rfl|(simp;done)|(simp [*];done)),H',⟨Nat.le_refl _⟩,⟨by (with_reducible repeat (first|refine zL ?_ _|refine zM ?_|refine zK ?_ _));exact BK241.out⟩,⟨by (with_reducible repeat (first|refine zL ?_ _|refine zM ?_|refine zK ?_ _));exact BK242.out⟩,⟨by (with_reducible repeat (first|refine zL ?_ _|refine zM ?_|refine zK ?_ _));exact BK246.out⟩,⟨by (with_reducible repeat (first|refine zL ?_ _|refine zM ?_|refine zK ?_ _));exact BK248.out⟩,⟨by repeat (first|(with_reducible first|exact HB.out|apply zD|apply zC|apply zE|refine zF ?_ GE241.out|refine zF ?_ GE242.out|refine zF ?_ GE246.out|refine zF ?_ GE248.out)|exact HB.out)⟩⟩
               case round =>
                clear H'
                try clear c1
                try clear c2
                try clear p2
                try clear q2
                try clear hx2
                try clear c3
                try clear c4
                try clear c5
                try clear c6
                try clear c6b0
                try clear c6b1
                try clear c6b2
                try clear p6
                try clear c7
                try clear c10
                try clear c13
                try clear c14
                try clear c14b0
                try clear c15
                try clear c15b0
                try clear c16
                try clear c16b0
                try clear c17
                try clear c17b0
                try clear c18
                try clear c21
                try clear c24
                try clear p24
                try clear q24
                try clear hx24
                try clear c26
                try clear c26b0
                try clear c27
                try clear c27b0
                try clear c28
                try clear c28b0
                try clear c30
                try clear c33
                try clear c34
                try clear c38
                try clear c39
                try clear c40
                try clear c43
                try clear c44
                try clear c45
                try clear c46
                try clear c48
                try clear c49
                try clear c51
                try clear c52
                try clear c53
                try clear c55
                try clear c56
                try clear c58
                try clear hcz11_0
                try clear hcz11_1
                try clear hcz12_0
                try clear hcz12_1
                try clear hcz19_0
                try clear hcz19_1
                try clear hcz20_0
                try clear hcz20_1
                try clear hcz22_0
                try clear hcz22_1
                try clear hcz23_0
                try clear hcz23_1
                try clear hcz25_0
                try clear hcz25_1
                try clear hcz31_0
                try clear hcz31_1
                try clear hcz35_0
                try clear hcz35_1
                try clear hcz36_0
                try clear hcz36_1
                try clear hcz41_0
                try clear hcz41_1
                try clear hcz47_0
                try clear hcz47_1
                try clear hcz50_0
                try clear hcz50_1
                try clear hcz54_0
                try clear hcz54_1
                try clear hcz57_0
                try clear hcz57_1
                try clear hcz8_0
                try clear hcz8_1
                try clear hcz9_0
                try clear hcz9_1
                try clear hfz11_0
                try clear hfz11_1
                try clear hfz12_0
                try clear hfz12_1
                try clear hfz19_0
                try clear hfz19_1
                try clear hfz20_0
                try clear hfz20_1
                try clear hfz22_0
                try clear hfz22_1
                try clear hfz23_0
                try clear hfz23_1
                try clear hfz25_0
                try clear hfz25_1
                try clear hfz31_0
                try clear hfz31_1
                try clear hfz35_0
                try clear hfz35_1
                try clear hfz36_0
                try clear hfz36_1
                try clear hfz41_0
                try clear hfz41_1
                try clear hfz47_0
                try clear hfz47_1
                try clear hfz50_0
                try clear hfz50_1
                try clear hfz54_0
                try clear hfz54_1
                try clear hfz57_0
                try clear hfz57_1
                try clear hfz8_0
                try clear hfz8_1
                try clear hfz9_0
                try clear hfz9_1
                try clear hx243_0
                try clear hx243_1
                try clear hx243_2
                try clear hx243_3
                try clear hx244_0
                try clear hx244_1
                try clear hx244_2
                try clear hx244_3
                try clear hx245_0
                try clear hx245_1
                try clear hx247_0
                try clear hx247_1
                try clear p2
                try clear p24
                try clear p243
                try clear p244
                try clear p245
                try clear p247
                try clear p6
                try clear q2
                try clear q24
                try clear q243
                try clear q244
                try clear q245
                try clear q247
                obtain ⟨x9_5,rfl,HA,HK5,BK241,BK242,BK246,BK248,HB⟩:=hrel
                cases gk with
                | zero=>exact absurd HA.out (by simp [foretelllaw_sameModel.l2])
                | succ k5 =>
                 have H:=HA.out
                 clear HA
                 simp only [foretelllaw_sameModel.l2] at H
                 by_cases c59:x9_5 < (((rd_T68 l0_1 x6_3).f1).length:Int)
                 ·rw [if_pos c59] at H
                  have c59b0:decide (x9_5 < (((rd_T68 l0_1 x6_3).f1).length:Int)) = true:=zQ c59
                  clear c59
                  by_cases c60:0 ≤ x9_5
                  ·rw [if_pos c60] at H
                   have c60b0:decide (0 ≤ x9_5) = true:=zQ c60
                   clear c60
                   by_cases c61:x9_5 < (((rd_T68 l1_1 x6_3).f1).length:Int)
                   ·rw [if_pos c61] at H
                    have c61b0:decide (x9_5 < (((rd_T68 l1_1 x6_3).f1).length:Int)) = true:=zQ c61
                    clear c61
                    by_cases c62:((rd_T70 ((rd_T68 l0_1 x6_3).f1) x9_5).f0) = ((rd_T70 ((rd_T68 l1_1 x6_3).f1) x9_5).f0)
                    ·rw [if_pos c62] at H
                     have c62b0:(((rd_T70 ((rd_T68 l0_1 x6_3).f1) x9_5).f0) == ((rd_T70 ((rd_T68 l1_1 x6_3).f1) x9_5).f0)) = true:=beq_iff_eq.mpr c62
                     have c62b1:(((rd_T70 ((rd_T68 l0_1 x6_3).f1) x9_5).f0) != ((rd_T70 ((rd_T68 l1_1 x6_3).f1) x9_5).f0)) = false:=bne_eq_false_iff_eq.mpr c62
                     clear c62
                     replace H:=zb.mp H
                     obtain ⟨t254,A630,H⟩:=H
                     replace H:(if t254 = true then (foretelllaw_sameModel.l2 k5 x6_3 (wrap64 (x9_5 + 1)) l0_0 l0_1 l1_0 l1_1 ((rd_T68 l0_1 x6_3).f0) ((rd_T68 l0_1 x6_3).f1) ((rd_T68 l1_1 x6_3).f0) ((rd_T68 l1_1 x6_3).f1)) else (some false)) = some r:=H
                     have A63:=zA A630
                     clear A630
                     by_cases c64:t254 = true
                     ·subst c64
                      have H1:(foretelllaw_sameModel.l2 k5 x6_3 (wrap64 (x9_5 + 1)) l0_0 l0_1 l1_0 l1_1 ((rd_T68 l0_1 x6_3).f0) ((rd_T68 l0_1 x6_3).f1) ((rd_T68 l1_1 x6_3).f0) ((rd_T68 l1_1 x6_3).f1)) = some r:=by rw [if_pos rfl] at H;exact H
                      clear H
                      have H:=H1
                      clear H1
                      have H':=zA H
                      clear H
                      have hnb65:=NB246_241.out
                      have hnc65:=NB241_246.out
                      have hnb66:=NB246_242.out
                      have hnc66:=NB242_246.out
                      have hnb67:=NB246_248.out
                      have hnc67:=NB248_246.out
                      have hcz68_0:wr.cell? ⟨gb246,0,none⟩ = some (.slice A245_0 ((rd_T68 l0_1 x6_3).f0).length c245_0):=(zI BK246.out 0).trans rfl
                      have hcz68_1:wr.cell? ⟨gb246,1,none⟩ = some (.slice A245_1 ((rd_T68 l0_1 x6_3).f1).length c245_1):=(zI BK246.out 1).trans rfl
                      have hfz68_0:=zJ BK246.out 0
                      have hfz68_1:=zJ BK246.out 1
                      have p250:0 ≤ (x9_5:Int):=zP (by assumption)
                      have q250:x9_5 < (((rd_T68 l0_1 x6_3).f1).length:Int):=zP (by assumption)
                      obtain ⟨ad250,A250_1,c250_1,e250,hx250_0,hx250_1,hl250_1,hi250_1⟩:=at_T70 HR245_1.out x9_5 p250 q250
                      cases e250
                      replace hx250_0:=(HB.out.cell (zB w _ hx250_0)).trans hx250_0
                      replace hx250_1:=(HB.out.cell (zB w _ hx250_1)).trans hx250_1
                      have HR250_1:=zA hi250_1
                      have HC250_1:=zA hl250_1
                      clear hi250_1 hl250_1
                      replace p250:=eq_true p250
                      replace q250:=eq_true q250
                      have hnb69:=NB248_241.out
                      have hnc69:=NB241_248.out
                      have hnb70:=NB248_242.out
                      have hnc70:=NB242_248.out
                      have hcz71_0:wr.cell? ⟨gb248,0,none⟩ = some (.slice A247_0 ((rd_T68 l1_1 x6_3).f0).length c247_0):=(zI BK248.out 0).trans rfl
                      have hcz71_1:wr.cell? ⟨gb248,1,none⟩ = some (.slice A247_1 ((rd_T68 l1_1 x6_3).f1).length c247_1):=(zI BK248.out 1).trans rfl
                      have hfz71_0:=zJ BK248.out 0
                      have hfz71_1:=zJ BK248.out 1
                      have p251:0 ≤ (x9_5:Int):=zP (by assumption)
                      have q251:x9_5 < (((rd_T68 l1_1 x6_3).f1).length:Int):=zP (by assumption)
                      obtain ⟨ad251,A251_1,c251_1,e251,hx251_0,hx251_1,hl251_1,hi251_1⟩:=at_T70 HR247_1.out x9_5 p251 q251
                      cases e251
                      replace hx251_0:=(HB.out.cell (zB w _ hx251_0)).trans hx251_0
                      replace hx251_1:=(HB.out.cell (zB w _ hx251_1)).trans hx251_1
                      have HR251_1:=zA hi251_1
                      have HC251_1:=zA hl251_1
                      clear hi251_1 hl251_1
                      replace p251:=eq_true p251
                      replace q251:=eq_true q251
                      have p252:0 ≤ (x9_5:Int):=zP (by assumption)
                      have q252:x9_5 < (((rd_T68 l0_1 x6_3).f1).length:Int):=zP (by assumption)
                      obtain ⟨ad252,A252_1,c252_1,e252,hx252_0,hx252_1,hl252_1,hi252_1⟩:=at_T70 HR245_1.out x9_5 p252 q252
                      obtain rfl:ad250 = ad252:=(by injection e252)
                      replace hx252_0:=(HB.out.cell (zB w _ hx252_0)).trans hx252_0
                      replace hx252_1:=(HB.out.cell (zB w _ hx252_1)).trans hx252_1
                      have HR252_1:=zA hi252_1
                      have HC252_1:=zA hl252_1
                      clear hi252_1 hl252_1
                      replace p252:=eq_true p252
                      replace q252:=eq_true q252
                      have ea_:=Option.some.inj (hx250_1.symm.trans hx252_1)
                      injection ea_ with ea_ en_ ec_
                      subst ea_
                      subst ec_
                      clear en_
                      have p253:0 ≤ (x9_5:Int):=zP (by assumption)
                      have q253:x9_5 < (((rd_T68 l1_1 x6_3).f1).length:Int):=zP (by assumption)
                      obtain ⟨ad253,A253_1,c253_1,e253,hx253_0,hx253_1,hl253_1,hi253_1⟩:=at_T70 HR247_1.out x9_5 p253 q253
                      obtain rfl:ad251 = ad253:=(by injection e253)
                      replace hx253_0:=(HB.out.cell (zB w _ hx253_0)).trans hx253_0
                      replace hx253_1:=(HB.out.cell (zB w _ hx253_1)).trans hx253_1
                      have HR253_1:=zA hi253_1
                      have HC253_1:=zA hl253_1
                      clear hi253_1 hl253_1
                      replace p253:=eq_true p253
                      replace q253:=eq_true q253
                      have ea_:=Option.some.inj (hx251_1.symm.trans hx253_1)
                      injection ea_ with ea_ en_ ec_
                      subst ea_
                      subst ec_
                      clear en_
                      go_wp2_with (first|(go_at_call 52;(with_reducible refine (foretelllaw_sameOps.calls k5 _ _ ((rd_T70 ((rd_T68 l0_1 x6_3).f1) x9_5).f1) _ _ ((rd_T70 ((rd_T68 l1_1 x6_3).f1) x9_5).f1) true _ ?side1 ?side2 ?side3 ?side4 A63.out).mono ?_);(case side1=>repeat (first|exact (zT HR252_1.out HB.out)|(with_reducible refine Kd.C_alloc ?_ _)|(with_reducible refine Kd.C_drewN ?_ _)|(with_reducible refine Kd.C_drew ?_)));(case side2=>exact HC252_1.out);(case side3=>repeat (first|exact (zT HR253_1.out HB.out)|(with_reducible refine Kd.C_alloc ?_ _)|(with_reducible refine Kd.C_drewN ?_ _)|(with_reducible refine Kd.C_drew ?_)));(case side4=>exact HC253_1.out);rintro e w' ⟨rfl,⟨nd,rfl⟩⟩;(try first|exact ⟨rfl,_,World.drewN_drewN _ _ _⟩|exact ⟨rfl,_,Eq.trans (World.drewN_drewN _ _ _) (congrArg (World.drewN _) (Nat.add_assoc _ _ _))⟩)))
                      repeat (go_quiet (first|(go_at_call 52;(with_reducible refine (foretelllaw_sameOps.calls k5 _ _ ((rd_T70 ((rd_T68 l0_1 x6_3).f1) x9_5).f1) _ _ ((rd_T70 ((rd_T68 l1_1 x6_3).f1) x9_5).f1) true _ ?side1 ?side2 ?side3 ?side4 A63.out).mono ?_);(case side1=>repeat (first|exact (zT HR252_1.out HB.out)|(with_reducible refine Kd.C_alloc ?_ _)|(with_reducible refine Kd.C_drewN ?_ _)|(with_reducible refine Kd.C_drew ?_)));(case side2=>exact HC252_1.out);(case side3=>repeat (first|exact (zT HR253_1.out HB.out)|(with_reducible refine Kd.C_alloc ?_ _)|(with_reducible refine Kd.C_drewN ?_ _)|(with_reducible refine Kd.C_drew ?_)));(case side4=>exact HC253_1.out);rintro e w' ⟨rfl,⟨nd,rfl⟩⟩;(try first|exact ⟨rfl,_,World.drewN_drewN _ _ _⟩|exact ⟨rfl,_,Eq.trans (World.drewN_drewN _ _ _) (congrArg (World.drewN _) (Nat.add_assoc _ _ _))⟩)));try go_wp2_with (first|(go_at_call 52;(with_reducible refine (foretelllaw_sameOps.calls k5 _ _ ((rd_T70 ((rd_T68 l0_1 x6_3).f1) x9_5).f1) _ _ ((rd_T70 ((rd_T68 l1_1 x6_3).f1) x9_5).f1) true _ ?side1 ?side2 ?side3 ?side4 A63.out).mono ?_);(case side1=>repeat (first|exact (zT HR252_1.out HB.out)|(with_reducible refine Kd.C_alloc ?_ _)|(with_reducible refine Kd.C_drewN ?_ _)|(with_reducible refine Kd.C_drew ?_)));(case side2=>exact HC252_1.out);(case side3=>repeat (first|exact (zT HR253_1.out HB.out)|(with_reducible refine Kd.C_alloc ?_ _)|(with_reducible refine Kd.C_drewN ?_ _)|(with_reducible refine Kd.C_drew ?_)));(case side4=>exact HC253_1.out);rintro e w' ⟨rfl,⟨nd,rfl⟩⟩;(try first|exact ⟨rfl,_,World.drewN_drewN _ _ _⟩|exact ⟨rfl,_,Eq.trans (World.drewN_drewN _ _ _) (congrArg (World.drewN _) (Nat.add_assoc _ _ _))⟩))))
                      go_roundg k5
                      case measure=>have:=HJ2.out;have:=HK2.out;have:=HK3.out;have:=HJ28.out;have:=HK5.out;omega
                      case rel=>exact ⟨(wrap64 (x9_5 + 1)),(by first|rfl|(simp;done)|(simp [*];done)),H',⟨by have:=HJ2.out;have:=HK2.out;have:=HK3.out;have:=HJ28.out;have:=HK5.out;omega⟩,⟨by (with_reducible repeat (first|refine zL ?_ _|refine zM ?_|refine zK ?_ _));exact BK241.out⟩,⟨by (with_reducible repeat (first|refine zL ?_ _|refine zM ?_|refine zK ?_ _));exact BK242.out⟩,⟨by (with_reducible repeat (first|refine zL ?_ _|refine zM ?_|refine zK ?_ _));exact BK246.out⟩,⟨by (with_reducible repeat (first|refine zL ?_ _|refine zM ?_|refine zK ?_ _));exact BK248.out⟩,⟨by repeat (first|(with_reducible first|exact HB.out|apply zD|apply zC|apply zE|refine zF ?_ GE241.out|refine zF ?_ GE242.out|refine zF ?_ GE246.out|refine zF ?_ GE248.out)|exact HB.out)⟩⟩
                     ·replace c64:=Bool.eq_false_iff.mpr c64
                      subst c64
                      have H1:(some false) = some r:=by rw [if_neg (show ¬ (false = true) by decide)] at H;exact H
                      clear H
                      have H:=H1
                      clear H1
                      obtain rfl:=Option.some.inj H
                      have hnb72:=NB246_241.out
                      have hnc72:=NB241_246.out
                      have hnb73:=NB246_242.out
                      have hnc73:=NB242_246.out
                      have hnb74:=NB246_248.out
                      have hnc74:=NB248_246.out
                      have hcz75_0:wr.cell? ⟨gb246,0,none⟩ = some (.slice A245_0 ((rd_T68 l0_1 x6_3).f0).length c245_0):=(zI BK246.out 0).trans rfl
                      have hcz75_1:wr.cell? ⟨gb246,1,none⟩ = some (.slice A245_1 ((rd_T68 l0_1 x6_3).f1).length c245_1):=(zI BK246.out 1).trans rfl
                      have hfz75_0:=zJ BK246.out 0
                      have hfz75_1:=zJ BK246.out 1
                      have p250:0 ≤ (x9_5:Int):=zP (by assumption)
                      have q250:x9_5 < (((rd_T68 l0_1 x6_3).f1).length:Int):=zP (by assumption)
                      obtain ⟨ad250,A250_1,c250_1,e250,hx250_0,hx250_1,hl250_1,hi250_1⟩:=at_T70 HR245_1.out x9_5 p250 q250
                      cases e250
                      replace hx250_0:=(HB.out.cell (zB w _ hx250_0)).trans hx250_0
                      replace hx250_1:=(HB.out.cell (zB w _ hx250_1)).trans hx250_1
                      have HR250_1:=zA hi250_1
                      have HC250_1:=zA hl250_1
                      clear hi250_1 hl250_1
                      replace p250:=eq_true p250
                      replace q250:=eq_true q250
                      have hnb76:=NB248_241.out
                      have hnc76:=NB241_248.out
                      have hnb77:=NB248_242.out
                      have hnc77:=NB242_248.out
                      have hcz78_0:wr.cell? ⟨gb248,0,none⟩ = some (.slice A247_0 ((rd_T68 l1_1 x6_3).f0).length c247_0):=(zI BK248.out 0).trans rfl
                      have hcz78_1:wr.cell? ⟨gb248,1,none⟩ = some (.slice A247_1 ((rd_T68 l1_1 x6_3).f1).length c247_1):=(zI BK248.out 1).trans rfl
                      have hfz78_0:=zJ BK248.out 0
                      have hfz78_1:=zJ BK248.out 1
                      have p251:0 ≤ (x9_5:Int):=zP (by assumption)
                      have q251:x9_5 < (((rd_T68 l1_1 x6_3).f1).length:Int):=zP (by assumption)
                      obtain ⟨ad251,A251_1,c251_1,e251,hx251_0,hx251_1,hl251_1,hi251_1⟩:=at_T70 HR247_1.out x9_5 p251 q251
                      cases e251
                      replace hx251_0:=(HB.out.cell (zB w _ hx251_0)).trans hx251_0
                      replace hx251_1:=(HB.out.cell (zB w _ hx251_1)).trans hx251_1
                      have HR251_1:=zA hi251_1
                      have HC251_1:=zA hl251_1
                      clear hi251_1 hl251_1
                      replace p251:=eq_true p251
                      replace q251:=eq_true q251
                      have p252:0 ≤ (x9_5:Int):=zP (by assumption)
                      have q252:x9_5 < (((rd_T68 l0_1 x6_3).f1).length:Int):=zP (by assumption)
                      obtain ⟨ad252,A252_1,c252_1,e252,hx252_0,hx252_1,hl252_1,hi252_1⟩:=at_T70 HR245_1.out x9_5 p252 q252
                      obtain rfl:ad250 = ad252:=(by injection e252)
                      replace hx252_0:=(HB.out.cell (zB w _ hx252_0)).trans hx252_0
                      replace hx252_1:=(HB.out.cell (zB w _ hx252_1)).trans hx252_1
                      have HR252_1:=zA hi252_1
                      have HC252_1:=zA hl252_1
                      clear hi252_1 hl252_1
                      replace p252:=eq_true p252
                      replace q252:=eq_true q252
                      have ea_:=Option.some.inj (hx250_1.symm.trans hx252_1)
                      injection ea_ with ea_ en_ ec_
                      subst ea_
                      subst ec_
                      clear en_
                      have p253:0 ≤ (x9_5:Int):=zP (by assumption)
                      have q253:x9_5 < (((rd_T68 l1_1 x6_3).f1).length:Int):=zP (by assumption)
                      obtain ⟨ad253,A253_1,c253_1,e253,hx253_0,hx253_1,hl253_1,hi253_1⟩:=at_T70 HR247_1.out x9_5 p253 q253
                      obtain rfl:ad251 = ad253:=(by injection e253)
                      replace hx253_0:=(HB.out.cell (zB w _ hx253_0)).trans hx253_0
                      replace hx253_1:=(HB.out.cell (zB w _ hx253_1)).trans hx253_1
                      have HR253_1:=zA hi253_1
                      have HC253_1:=zA hl253_1
                      clear hi253_1 hl253_1
                      replace p253:=eq_true p253
                      replace q253:=eq_true q253
                      have ea_:=Option.some.inj (hx251_1.symm.trans hx253_1)
                      injection ea_ with ea_ en_ ec_
                      subst ea_
                      subst ec_
                      clear en_
                      go_wp2_with (first|(go_at_call 52;(with_reducible refine (foretelllaw_sameOps.calls k5 _ _ ((rd_T70 ((rd_T68 l0_1 x6_3).f1) x9_5).f1) _ _ ((rd_T70 ((rd_T68 l1_1 x6_3).f1) x9_5).f1) false _ ?side1 ?side2 ?side3 ?side4 A63.out).mono ?_);(case side1=>repeat (first|exact (zT HR252_1.out HB.out)|(with_reducible refine Kd.C_alloc ?_ _)|(with_reducible refine Kd.C_drewN ?_ _)|(with_reducible refine Kd.C_drew ?_)));(case side2=>exact HC252_1.out);(case side3=>repeat (first|exact (zT HR253_1.out HB.out)|(with_reducible refine Kd.C_alloc ?_ _)|(with_reducible refine Kd.C_drewN ?_ _)|(with_reducible refine Kd.C_drew ?_)));(case side4=>exact HC253_1.out);rintro e w' ⟨rfl,⟨nd,rfl⟩⟩;(try first|exact ⟨rfl,_,World.drewN_drewN _ _ _⟩|exact ⟨rfl,_,Eq.trans (World.drewN_drewN _ _ _) (congrArg (World.drewN _) (Nat.add_assoc _ _ _))⟩)))
                      repeat (go_quiet (first|(go_at_call 52;(with_reducible refine (foretelllaw_sameOps.calls k5 _ _ ((rd_T70 ((rd_T68 l0_1 x6_3).f1) x9_5).f1) _ _ ((rd_T70 ((rd_T68 l1_1 x6_3).f1) x9_5).f1) false _ ?side1 ?side2 ?side3 ?side4 A63.out).mono ?_);(case side1=>repeat (first|exact (zT HR252_1.out HB.out)|(with_reducible refine Kd.C_alloc ?_ _)|(with_reducible refine Kd.C_drewN ?_ _)|(with_reducible refine Kd.C_drew ?_)));(case side2=>exact HC252_1.out);(case side3=>repeat (first|exact (zT HR253_1.out HB.out)|(with_reducible refine Kd.C_alloc ?_ _)|(with_reducible refine Kd.C_drewN ?_ _)|(with_reducible refine Kd.C_drew ?_)));(case side4=>exact HC253_1.out);rintro e w' ⟨rfl,⟨nd,rfl⟩⟩;(try first|exact ⟨rfl,_,World.drewN_drewN _ _ _⟩|exact ⟨rfl,_,Eq.trans (World.drewN_drewN _ _ _) (congrArg (World.drewN _) (Nat.add_assoc _ _ _))⟩)));try go_wp2_with (first|(go_at_call 52;(with_reducible refine (foretelllaw_sameOps.calls k5 _ _ ((rd_T70 ((rd_T68 l0_1 x6_3).f1) x9_5).f1) _ _ ((rd_T70 ((rd_T68 l1_1 x6_3).f1) x9_5).f1) false _ ?side1 ?side2 ?side3 ?side4 A63.out).mono ?_);(case side1=>repeat (first|exact (zT HR252_1.out HB.out)|(with_reducible refine Kd.C_alloc ?_ _)|(with_reducible refine Kd.C_drewN ?_ _)|(with_reducible refine Kd.C_drew ?_)));(case side2=>exact HC252_1.out);(case side3=>repeat (first|exact (zT HR253_1.out HB.out)|(with_reducible refine Kd.C_alloc ?_ _)|(with_reducible refine Kd.C_drewN ?_ _)|(with_reducible refine Kd.C_drew ?_)));(case side4=>exact HC253_1.out);rintro e w' ⟨rfl,⟨nd,rfl⟩⟩;(try first|exact ⟨rfl,_,World.drewN_drewN _ _ _⟩|exact ⟨rfl,_,Eq.trans (World.drewN_drewN _ _ _) (congrArg (World.drewN _) (Nat.add_assoc _ _ _))⟩))))
                      go_ret
                      exact ⟨by first|rfl|(simp [errW_none,errW_some] <;> rfl)|(simp [*,errW_none,errW_some] <;> rfl),by repeat (first|(with_reducible first|exact HB.out|apply zD|apply zC|apply zE|refine zF ?_ GE241.out|refine zF ?_ GE242.out|refine zF ?_ GE246.out|refine zF ?_ GE248.out)|exact HB.out)⟩
                    ·rw [if_neg c62] at H
                     have c62b0:(((rd_T70 ((rd_T68 l0_1 x6_3).f1) x9_5).f0) == ((rd_T70 ((rd_T68 l1_1 x6_3).f1) x9_5).f0)) = false:=beq_eq_false_iff_ne.mpr c62
                     have c62b1:(((rd_T70 ((rd_T68 l0_1 x6_3).f1) x9_5).f0) != ((rd_T70 ((rd_T68 l1_1 x6_3).f1) x9_5).f0)) = true:=bne_iff_ne.mpr c62
                     obtain rfl:=Option.some.inj H
                     have hnb79:=NB246_241.out
                     have hnc79:=NB241_246.out
                     have hnb80:=NB246_242.out
                     have hnc80:=NB242_246.out
                     have hnb81:=NB246_248.out
                     have hnc81:=NB248_246.out
                     have hcz82_0:wr.cell? ⟨gb246,0,none⟩ = some (.slice A245_0 ((rd_T68 l0_1 x6_3).f0).length c245_0):=(zI BK246.out 0).trans rfl
                     have hcz82_1:wr.cell? ⟨gb246,1,none⟩ = some (.slice A245_1 ((rd_T68 l0_1 x6_3).f1).length c245_1):=(zI BK246.out 1).trans rfl
                     have hfz82_0:=zJ BK246.out 0
                     have hfz82_1:=zJ BK246.out 1
                     have p250:0 ≤ (x9_5:Int):=zP (by assumption)
                     have q250:x9_5 < (((rd_T68 l0_1 x6_3).f1).length:Int):=zP (by assumption)
                     obtain ⟨ad250,A250_1,c250_1,e250,hx250_0,hx250_1,hl250_1,hi250_1⟩:=at_T70 HR245_1.out x9_5 p250 q250
                     cases e250
                     replace hx250_0:=(HB.out.cell (zB w _ hx250_0)).trans hx250_0
                     replace hx250_1:=(HB.out.cell (zB w _ hx250_1)).trans hx250_1
                     have HR250_1:=zA hi250_1
                     have HC250_1:=zA hl250_1
                     clear hi250_1 hl250_1
                     replace p250:=eq_true p250
                     replace q250:=eq_true q250
                     have hnb83:=NB248_241.out
                     have hnc83:=NB241_248.out
                     have hnb84:=NB248_242.out
                     have hnc84:=NB242_248.out
                     have hcz85_0:wr.cell? ⟨gb248,0,none⟩ = some (.slice A247_0 ((rd_T68 l1_1 x6_3).f0).length c247_0):=(zI BK248.out 0).trans rfl
                     have hcz85_1:wr.cell? ⟨gb248,1,none⟩ = some (.slice A247_1 ((rd_T68 l1_1 x6_3).f1).length c247_1):=(zI BK248.out 1).trans rfl
                     have hfz85_0:=zJ BK248.out 0
                     have hfz85_1:=zJ BK248.out 1
                     have p251:0 ≤ (x9_5:Int):=zP (by assumption)
                     have q251:x9_5 < (((rd_T68 l1_1 x6_3).f1).length:Int):=zP (by assumption)
                     obtain ⟨ad251,A251_1,c251_1,e251,hx251_0,hx251_1,hl251_1,hi251_1⟩:=at_T70 HR247_1.out x9_5 p251 q251
                     cases e251
                     replace hx251_0:=(HB.out.cell (zB w _ hx251_0)).trans hx251_0
                     replace hx251_1:=(HB.out.cell (zB w _ hx251_1)).trans hx251_1
                     have HR251_1:=zA hi251_1
                     have HC251_1:=zA hl251_1
                     clear hi251_1 hl251_1
                     replace p251:=eq_true p251
                     replace q251:=eq_true q251
                     go_wp2
                     repeat (go_quiet (fail);try go_wp2)
                     go_ret
                     exact ⟨by first|rfl|(simp [errW_none,errW_some] <;> rfl)|(simp [*,errW_none,errW_some] <;> rfl),by repeat (first|(with_reducible first|exact HB.out|apply zD|apply zC|apply zE|refine zF ?_ GE241.out|refine zF ?_ GE242.out|refine zF ?_ GE246.out|refine zF ?_ GE248.out)|exact HB.out)⟩
                   ·rw [if_neg c61] at H
                    exact absurd H (by simp)
                  ·rw [if_neg c60] at H
                   exact absurd H (by simp)
                 ·rw [if_neg c59] at H
                  have c59b0:decide (x9_5 < (((rd_T68 l0_1 x6_3).f1).length:Int)) = false:=zR c59
                  clear c59
                  have H':=zA H
                  clear H
                  have hnb86:=NB246_241.out
                  have hnc86:=NB241_246.out
                  have hnb87:=NB246_242.out
                  have hnc87:=NB242_246.out
                  have hnb88:=NB246_248.out
                  have hnc88:=NB248_246.out
                  have hcz89_0:wr.cell? ⟨gb246,0,none⟩ = some (.slice A245_0 ((rd_T68 l0_1 x6_3).f0).length c245_0):=(zI BK246.out 0).trans rfl
                  have hcz89_1:wr.cell? ⟨gb246,1,none⟩ = some (.slice A245_1 ((rd_T68 l0_1 x6_3).f1).length c245_1):=(zI BK246.out 1).trans rfl
                  have hfz89_0:=zJ BK246.out 0
                  have hfz89_1:=zJ BK246.out 1
                  go_wp2
                  repeat (go_quiet (fail);try go_wp2)
                  go_roundg k5
                  case measure=>have:=HJ2.out;have:=HK2.out;have:=HK3.out;have:=HJ28.out;have:=HK5.out;omega
                  case rel=>exact ⟨(wrap64 (x6_3 + 1)),(by first|rfl|(simp;done)|(simp [*];done)),H',⟨by have:=HJ2.out;have:=HK2.out;have:=HK3.out;have:=HJ28.out;have:=HK5.out;omega⟩,⟨by (with_reducible repeat (first|refine zL ?_ _|refine zM ?_|refine zK ?_ _));exact BK241.out⟩,⟨by (with_reducible repeat (first|refine zL ?_ _|refine zM ?_|refine zK ?_ _));exact BK242.out⟩,⟨by repeat (first|(with_reducible first|exact HB.out|apply zD|apply zC|apply zE|refine zF ?_ GE241.out|refine zF ?_ GE242.out|refine zF ?_ GE246.out|refine zF ?_ GE248.out)|exact HB.out)⟩⟩
           ·rw [if_neg c28] at H
            exact absurd H (by simp)
          ·rw [if_neg c27] at H
           exact absurd H (by simp)
         ·rw [if_neg c26] at H
          have c26b0:decide (x6_3 < (l0_1.length:Int)) = false:=zR c26
          clear c26
          obtain rfl:=Option.some.inj H
          have hnb90:=NB241_242.out
          have hnc90:=NB242_241.out
          have hcz91_0:wr.cell? ⟨gb241,0,none⟩ = some (.slice A0_0 l0_0.length c0_0):=(zI BK241.out 0).trans rfl
          have hcz91_1:wr.cell? ⟨gb241,1,none⟩ = some (.slice A0_1 l0_1.length c0_1):=(zI BK241.out 1).trans rfl
          have hfz91_0:=zJ BK241.out 0
          have hfz91_1:=zJ BK241.out 1
          go_wp2
          repeat (go_quiet (fail);try go_wp2)
          go_ret
          exact ⟨by first|rfl|(simp [errW_none,errW_some] <;> rfl)|(simp [*,errW_none,errW_some] <;> rfl),by repeat (first|(with_reducible first|exact HB.out|apply zD|apply zC|apply zE|refine zF ?_ GE241.out|refine zF ?_ GE242.out)|exact HB.out)⟩
end Go.Proofs.YtkpddelnkjjflaaDoor.M
