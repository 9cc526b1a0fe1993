-- Cut by a program of this session (wip/prune.py) from a longer text: declarations that the law does not need are left out.
import Derived.Test.YtkpddelnkjjflaaDoorKStepLettersMx0
import Derived.Test.YtkpddelnkjjflaaDoorKStepLettersMx4
namespace Go.Proofs.YtkpddelnkjjflaaDoor.M
open Go.Proofs.YtkpddelnkjjflaaDoor.Al
open Go.World renaming block_lt_of_cell? → zB
open Option renaming bind_eq_some_iff → zb
open List renaming setIfInBounds_toArray → zX, set_cons_zero → zY, set_cons_succ → zZ, map_toArray → zx, map_cons → zy, map_nil → zz, length_drop → zd, length_take → zt
open Go.Proofs.YtkpddelnkjjflaaDoorW.PrintWords renaming pw_below_drewN → zC, below_alloc → zD, below_drew1 → zE, below_set → zF, below_size → zG, below_step → zH, blk_cell → zI, blk_frozen → zJ, blk_alloc → zK, blk_drewN → zL, blk_drew → zM, blk_below → zN, blk_put → zO, Kd.C_below → zT, gate_callee → zU, gate_dst → zV, box_event → zW
open Go.RowKit Go.Proofs.YtkpddelnkjjflaaDoorW.PrintWords Go.Proofs.YtkpddelnkjjflaaDoorW.PrintLast Go.Proofs.YtkpddelnkjjflaaDoorW.PrintMore
attribute [local go_sem] max2_int min2_int max_two min_two max_three min_three max_four min_four
set_option linter.unusedVariables false
set_option linter.unusedSimpArgs false
def foretellref_ExprChecked.l0:Nat → List (S94) → Int → Int → Option (Bool × Int)
 | 0,_,_,_=>none
 | k + 1,x0,x1,x8=>if x8 < (x0.length:Int) then (if 0 ≤ x8 then (if ((rd_T94 x0 x8).f0) > 12 then (some (false,13)) else (if ((rd_T94 x0 x8).f0) = 1 then ((foretellref_In.f ((rd_T94 x0 x8).f1) (-1000) 1000).bind fun t260=>(if t260 = true then (if ((rd_T94 x0 x8).f0) = 2 then ((foretellref_In.f ((rd_T94 x0 x8).f1) 0 (wrap64 (x1 - 1))).bind fun t261=>(if t261 = true then (if ((rd_T94 x0 x8).f0) > 2 then (if ((rd_T94 x0 x8).f1) = 0 then (foretellref_ExprChecked.l0 k x0 x1 (wrap64 (x8 + 1))) else (some (false,2))) else (foretellref_ExprChecked.l0 k x0 x1 (wrap64 (x8 + 1)))) else (some (false,2)))) else (if ((rd_T94 x0 x8).f0) > 2 then (if ((rd_T94 x0 x8).f1) = 0 then (foretellref_ExprChecked.l0 k x0 x1 (wrap64 (x8 + 1))) else (some (false,2))) else (foretellref_ExprChecked.l0 k x0 x1 (wrap64 (x8 + 1))))) else (some (false,2)))) else (if ((rd_T94 x0 x8).f0) = 2 then ((foretellref_In.f ((rd_T94 x0 x8).f1) 0 (wrap64 (x1 - 1))).bind fun t262=>(if t262 = true then (if ((rd_T94 x0 x8).f0) > 2 then (if ((rd_T94 x0 x8).f1) = 0 then (foretellref_ExprChecked.l0 k x0 x1 (wrap64 (x8 + 1))) else (some (false,2))) else (foretellref_ExprChecked.l0 k x0 x1 (wrap64 (x8 + 1)))) else (some (false,2)))) else (if ((rd_T94 x0 x8).f0) > 2 then (if ((rd_T94 x0 x8).f1) = 0 then (foretellref_ExprChecked.l0 k x0 x1 (wrap64 (x8 + 1))) else (some (false,2))) else (foretellref_ExprChecked.l0 k x0 x1 (wrap64 (x8 + 1))))))) else (none)) else ((foretellref_typed.f k x0).bind fun t263=>(if t263 = 0 then (if 0 < (x0.length:Int) then ((foretellref_makesTruth.f ((rd_T94 x0 0).f0)).bind fun t265=>(some (t265,0))) else (none)) else (some (false,5))))
def foretellref_ExprChecked.f (k:Nat) (l0:List (S94)) (a1:Int):Option (Bool × Int):=(foretellref_In.f a1 0 6).bind fun t253=>(if t253 = true then ((foretellref_EndsOf.f k l0).bind fun bt254=>(if bt254.2 = 0 then (foretellref_ExprChecked.l0 k l0 a1 0) else (some (false,bt254.2)))) else (some (false,2)))
theorem foretellref_ExprChecked.mono_l:∀ k,(∀ y0 y1 y2,LeO (foretellref_ExprChecked.l0 k y0 y1 y2) (foretellref_ExprChecked.l0 (k + 1) y0 y1 y2))
 | 0=>fun _ _ _ r h=>by simp [foretellref_ExprChecked.l0] at h
 | k + 1=>by
  have ih0:=foretellref_ExprChecked.mono_l k
  ·intro y0 y1 y2
   unfold foretellref_ExprChecked.l0
   repeat' first
   | (with_reducible exact ih0 _ _ _)
   | (with_reducible exact foretellref_EndsOf.mono _ _)
   | (with_reducible exact foretellref_typed.mono _ _)
   | (with_reducible exact LeO.refl _)
   | (with_reducible exact LeO.none _)
   | (with_reducible refine LeO.ite ?_ ?_)
   | (with_reducible refine LeO.bind ?_ (fun _=>?_))
   | exact ih0 _ _ _
   | exact foretellref_EndsOf.mono _ _
   | exact foretellref_typed.mono _ _
   | exact LeO.none _
   | refine LeO.ite ?_ ?_
   | refine LeO.bind ?_ (fun _=>?_)
theorem foretellref_ExprChecked.mono:∀ a0 a1 k,LeO (foretellref_ExprChecked.f k a0 a1) (foretellref_ExprChecked.f (k + 1) a0 a1):=by
 intro a0 a1 k
 have ih0:=foretellref_ExprChecked.mono_l k
 unfold foretellref_ExprChecked.f
 repeat' first
   | (with_reducible exact ih0 _ _ _)
   | (with_reducible exact foretellref_EndsOf.mono _ _)
   | (with_reducible exact foretellref_typed.mono _ _)
   | (with_reducible exact LeO.refl _)
   | (with_reducible exact LeO.none _)
   | (with_reducible refine LeO.ite ?_ ?_)
   | (with_reducible refine LeO.bind ?_ (fun _=>?_))
   | exact ih0 _ _ _
   | exact foretellref_EndsOf.mono _ _
   | exact foretellref_typed.mono _ _
   | exact LeO.none _
   | refine LeO.ite ?_ ?_
   | refine LeO.bind ?_ (fun _=>?_)
set_option maxHeartbeats 8000000 in
set_option maxRecDepth 100000 in
theorem foretellref_ExprChecked.calls (k:Nat) (A0:Option Addr) (c0:Nat) (l0:List (S94)) (a1:Int) (r1:Bool) (r2:Int) (w:World) (hr0:Kd.C k94 w A0 l0.length l0) (hc0:l0.length ≤ c0) (h:foretellref_ExprChecked.f k l0 a1 = some (r1,r2)) :
  Calls Tryd.prog 70 #[.slice A0 l0.length c0,.int .i64 a1] w fun e w'=>e = .returned (.tuple #[.bool r1,.int .i64 r2])∧Below w.heap.size w w':=by
 have hu94:=Tryd.underlying94
 have HR0:=zA hr0
 have HC0:=zA hc0
 clear hr0 hc0
 have HB:=zA (Below.refl w.heap.size w)
 have H:((foretellref_In.f a1 0 6).bind fun t253=>(if t253 = true then ((foretellref_EndsOf.f k l0).bind fun bt254=>(if bt254.2 = 0 then (foretellref_ExprChecked.l0 k l0 a1 0) else (some (false,bt254.2)))) else (some (false,2)))) = some (r1,r2):=h
 clear h
 replace H:=zb.mp H
 obtain ⟨t253,A30,H⟩:=H
 replace H:(if t253 = true then ((foretellref_EndsOf.f k l0).bind fun bt254=>(if bt254.2 = 0 then (foretellref_ExprChecked.l0 k l0 a1 0) else (some (false,bt254.2)))) else (some (false,2))) = some (r1,r2):=H
 have A3:=zA A30
 clear A30
 by_cases c4:t253 = true
 ·subst c4
  have H1:((foretellref_EndsOf.f k l0).bind fun bt254=>(if bt254.2 = 0 then (foretellref_ExprChecked.l0 k l0 a1 0) else (some (false,bt254.2)))) = some (r1,r2):=by rw [if_pos rfl] at H;exact H
  clear H
  have H:=H1
  clear H1
  replace H:=zb.mp H
  obtain ⟨⟨t254,t255⟩,A50,H⟩:=H
  replace H:(if t255 = 0 then (foretellref_ExprChecked.l0 k l0 a1 0) else (some (false,t255))) = some (r1,r2):=H
  have A5:=zA A50
  clear A50
  by_cases c6:t255 = 0
  ·rw [if_pos c6] at H
   have c6b0:(t255 == 0) = true:=beq_iff_eq.mpr c6
   have c6b1:(t255 != 0) = false:=bne_eq_false_iff_eq.mpr c6
   clear c6
   have H':=zA H
   clear H
   go_enter Tryd.func70,Tryd.ntmps70
   go_wp2_with (first|((with_reducible refine zU (f:=56) rfl ?_);refine goesL_ (some 11) rfl rfl Tryd.func56 (by kernel_rfl) rfl #[.int .i64 a1,.int .i64 0,.int .i64 6] rfl (by (try simp only [zx,zy,zz]);first|done|rfl|(simp only [zd,zt];rfl)) ?_;(with_reducible refine (foretellref_In.calls a1 0 6 true _ A3.out).mono ?_);rintro e w' ⟨rfl,⟨nd,rfl⟩⟩;refine ⟨_,rfl,?_⟩)|((with_reducible refine zU (f:=74) rfl ?_);refine goesL_ (some 15) rfl rfl Tryd.func74 (by kernel_rfl) rfl #[.slice A0 l0.length c0] rfl (by (try simp only [zx,zy,zz]);first|done|rfl|(simp only [zd,zt];rfl)) ?_;(with_reducible refine (foretellref_EndsOf.calls k _ _ l0 t254 t255 _ ?side1 ?side2 A5.out).mono ?_);(case side1=>repeat (first|exact HR0.out|(with_reducible refine Kd.C_alloc ?_ _)|(with_reducible refine Kd.C_drewN ?_ _)|(with_reducible refine Kd.C_drew ?_)));(case side2=>exact HC0.out);rintro e w7 ⟨v256,rfl,ho0,hb⟩;refine ⟨_,rfl,?_⟩;have n0_:=zA (Kd.R_lower ho0 (zG (by repeat (first|(with_reducible first|exact HB.out|apply zD|apply zC|apply zE)|exact HB.out))));have n1_:=zA (zH (by repeat (first|(with_reducible first|exact HB.out|apply zD|apply zC|apply zE)|exact HB.out)) hb);clear HB;have HO257:=n0_;have HB:=n1_;clear n0_ n1_;(try clear hb);(try clear hb2);(try clear hk);(try clear hi);(try clear ho0)))
   go_loopg [8] k (fun kq v8 w'=>∃ (x8_1:Int),v8 = .int .i64 x8_1∧Aside0 (foretellref_ExprChecked.l0 kq l0 a1 x8_1 = some (r1,r2))∧Aside0 (kq ≤ k)∧Aside0 (Below w.heap.size w w'))
   case atStart=>exact ⟨(0),(by first|rfl|(simp;done)|(simp [*];done)),H',⟨Nat.le_refl _⟩,⟨by repeat (first|(with_reducible first|exact HB.out|apply zD|apply zC|apply zE)|exact HB.out)⟩⟩
   case round =>
    clear H'
    try clear p2
    try clear c4
    try clear c5
    try clear c6
    try clear c6b0
    try clear c6b1
    try clear c7
    obtain ⟨x8_1,rfl,HA,HK1,HB⟩:=hrel
    cases gk with
    | zero=>exact absurd HA.out (by simp [foretellref_ExprChecked.l0])
    | succ k1 =>
     have H:=HA.out
     clear HA
     simp only [foretellref_ExprChecked.l0] at H
     by_cases c8:x8_1 < (l0.length:Int)
     ·rw [if_pos c8] at H
      have c8b0:decide (x8_1 < (l0.length:Int)) = true:=zQ c8
      clear c8
      by_cases c9:0 ≤ x8_1
      ·rw [if_pos c9] at H
       have c9b0:decide (0 ≤ x8_1) = true:=zQ c9
       clear c9
       by_cases c10:((rd_T94 l0 x8_1).f0) > 12
       ·rw [if_pos c10] at H
        have c10b0:decide (12 < ((rd_T94 l0 x8_1).f0)) = true:=zQ c10
        clear c10
        simp only [Option.some.injEq,Prod.mk.injEq] at H
        obtain ⟨rfl,rfl⟩:=H
        have p258:0 ≤ (x8_1:Int):=zP (by assumption)
        have q258:x8_1 < (l0.length:Int):=zP (by assumption)
        obtain ⟨ad258,e258,hx258_0,hx258_1⟩:=at_T94 HR0.out x8_1 p258 q258
        cases e258
        replace hx258_0:=(HB.out.cell (zB w _ hx258_0)).trans hx258_0
        replace hx258_1:=(HB.out.cell (zB w _ hx258_1)).trans hx258_1
        replace p258:=eq_true p258
        replace q258:=eq_true q258
        go_wp2_with (first|((with_reducible refine zV (N:=9) rfl ?_);refine zW ?hg (N:=9) ?hd (cs:=#[.int .i64 0,.int .i64 0]) (t:=94) ?hr ?_;(case hd=>rfl);(case hg=>rfl);(case hr=>first|(go_simp;done)|(go_simp;rfl));intro gb259 hg w11 hbox hb;have n0_:=zA (zH (by repeat (first|(with_reducible first|exact HB.out|apply zD|apply zC|apply zE)|exact HB.out)) hb);have n1_:=zA (hbox);have n2_:=zA ((by rw [hg];exact (zG (by repeat (first|(with_reducible first|exact HB.out|apply zD|apply zC|apply zE)|exact HB.out))):w.heap.size ≤ gb259));have n3_:=zA ((by rw [hg];exact (zG (by repeat (first|(with_reducible first|exact HB.out|apply zD|apply zC|apply zE)|exact HB.out))):w.heap.size ≤ gb259));clear HB;have HB:=n0_;have BK259:=n1_;have GW259:=n2_;have GE259:=n3_;clear n0_ n1_ n2_ n3_;clear hb hbox hg;have hcz12_0:w11.cell? ⟨gb259,0,none⟩ = some (.int .i64 0):=(zI BK259.out 0).trans rfl;have hcz12_1:w11.cell? ⟨gb259,1,none⟩ = some (.int .i64 0):=(zI BK259.out 1).trans rfl;have hfz12_0:=zJ BK259.out 0;have hfz12_1:=zJ BK259.out 1))
        go_ret2
        exact ⟨by first|rfl|(simp [errW_none,errW_some] <;> rfl)|(simp [*,errW_none,errW_some] <;> rfl),by repeat (first|(with_reducible first|exact HB.out|apply zD|apply zC|apply zE|refine zF ?_ GE259.out)|exact HB.out)⟩
       ·rw [if_neg c10] at H
        have c10b0:decide (12 < ((rd_T94 l0 x8_1).f0)) = false:=zR c10
        clear c10
        by_cases c13:((rd_T94 l0 x8_1).f0) = 1
        ·rw [if_pos c13] at H
         have c13b0:(((rd_T94 l0 x8_1).f0) == 1) = true:=beq_iff_eq.mpr c13
         have c13b1:(((rd_T94 l0 x8_1).f0) != 1) = false:=bne_eq_false_iff_eq.mpr c13
         clear c13
         replace H:=zb.mp H
         obtain ⟨t260,A140,H⟩:=H
         replace H:(if t260 = true then (if ((rd_T94 l0 x8_1).f0) = 2 then ((foretellref_In.f ((rd_T94 l0 x8_1).f1) 0 (wrap64 (a1 - 1))).bind fun t261=>(if t261 = true then (if ((rd_T94 l0 x8_1).f0) > 2 then (if ((rd_T94 l0 x8_1).f1) = 0 then (foretellref_ExprChecked.l0 k1 l0 a1 (wrap64 (x8_1 + 1))) else (some (false,2))) else (foretellref_ExprChecked.l0 k1 l0 a1 (wrap64 (x8_1 + 1)))) else (some (false,2)))) else (if ((rd_T94 l0 x8_1).f0) > 2 then (if ((rd_T94 l0 x8_1).f1) = 0 then (foretellref_ExprChecked.l0 k1 l0 a1 (wrap64 (x8_1 + 1))) else (some (false,2))) else (foretellref_ExprChecked.l0 k1 l0 a1 (wrap64 (x8_1 + 1))))) else (some (false,2))) = some (r1,r2):=H
         have A14:=zA A140
         clear A140
         by_cases c15:t260 = true
         ·subst c15
          have H1:(if ((rd_T94 l0 x8_1).f0) = 2 then ((foretellref_In.f ((rd_T94 l0 x8_1).f1) 0 (wrap64 (a1 - 1))).bind fun t261=>(if t261 = true then (if ((rd_T94 l0 x8_1).f0) > 2 then (if ((rd_T94 l0 x8_1).f1) = 0 then (foretellref_ExprChecked.l0 k1 l0 a1 (wrap64 (x8_1 + 1))) else (some (false,2))) else (foretellref_ExprChecked.l0 k1 l0 a1 (wrap64 (x8_1 + 1)))) else (some (false,2)))) else (if ((rd_T94 l0 x8_1).f0) > 2 then (if ((rd_T94 l0 x8_1).f1) = 0 then (foretellref_ExprChecked.l0 k1 l0 a1 (wrap64 (x8_1 + 1))) else (some (false,2))) else (foretellref_ExprChecked.l0 k1 l0 a1 (wrap64 (x8_1 + 1))))) = some (r1,r2):=by rw [if_pos rfl] at H;exact H
          clear H
          have H:=H1
          clear H1
          by_cases c16:((rd_T94 l0 x8_1).f0) = 2
          ·rw [if_pos c16] at H
           have c16b0:(((rd_T94 l0 x8_1).f0) == 2) = true:=beq_iff_eq.mpr c16
           have c16b1:(((rd_T94 l0 x8_1).f0) != 2) = false:=bne_eq_false_iff_eq.mpr c16
           clear c16
           replace H:=zb.mp H
           obtain ⟨t261,A170,H⟩:=H
           replace H:(if t261 = true then (if ((rd_T94 l0 x8_1).f0) > 2 then (if ((rd_T94 l0 x8_1).f1) = 0 then (foretellref_ExprChecked.l0 k1 l0 a1 (wrap64 (x8_1 + 1))) else (some (false,2))) else (foretellref_ExprChecked.l0 k1 l0 a1 (wrap64 (x8_1 + 1)))) else (some (false,2))) = some (r1,r2):=H
           have A17:=zA A170
           clear A170
           by_cases c18:t261 = true
           ·subst c18
            have H1:(if ((rd_T94 l0 x8_1).f0) > 2 then (if ((rd_T94 l0 x8_1).f1) = 0 then (foretellref_ExprChecked.l0 k1 l0 a1 (wrap64 (x8_1 + 1))) else (some (false,2))) else (foretellref_ExprChecked.l0 k1 l0 a1 (wrap64 (x8_1 + 1)))) = some (r1,r2):=by rw [if_pos rfl] at H;exact H
            clear H
            have H:=H1
            clear H1
            by_cases c19:((rd_T94 l0 x8_1).f0) > 2
            ·rw [if_pos c19] at H
             have c19b0:decide (2 < ((rd_T94 l0 x8_1).f0)) = true:=zQ c19
             clear c19
             by_cases c20:((rd_T94 l0 x8_1).f1) = 0
             ·rw [if_pos c20] at H
              have c20b0:(((rd_T94 l0 x8_1).f1) == 0) = true:=beq_iff_eq.mpr c20
              have c20b1:(((rd_T94 l0 x8_1).f1) != 0) = false:=bne_eq_false_iff_eq.mpr c20
              clear c20
              have H':=zA H
              clear H
              have p258:0 ≤ (x8_1:Int):=zP (by assumption)
              have q258:x8_1 < (l0.length:Int):=zP (by assumption)
              obtain ⟨ad258,e258,hx258_0,hx258_1⟩:=at_T94 HR0.out x8_1 p258 q258
              cases e258
              replace hx258_0:=(HB.out.cell (zB w _ hx258_0)).trans hx258_0
              replace hx258_1:=(HB.out.cell (zB w _ hx258_1)).trans hx258_1
              replace p258:=eq_true p258
              replace q258:=eq_true q258
              go_wp2_with (first|((with_reducible refine zV (N:=9) rfl ?_);refine zW ?hg (N:=9) ?hd (cs:=#[.int .i64 0,.int .i64 0]) (t:=94) ?hr ?_;(case hd=>rfl);(case hg=>rfl);(case hr=>first|(go_simp;done)|(go_simp;rfl));intro gb259 hg w21 hbox hb;have n0_:=zA (zH (by repeat (first|(with_reducible first|exact HB.out|apply zD|apply zC|apply zE)|exact HB.out)) hb);have n1_:=zA (hbox);have n2_:=zA ((by rw [hg];exact (zG (by repeat (first|(with_reducible first|exact HB.out|apply zD|apply zC|apply zE)|exact HB.out))):w.heap.size ≤ gb259));have n3_:=zA ((by rw [hg];exact (zG (by repeat (first|(with_reducible first|exact HB.out|apply zD|apply zC|apply zE)|exact HB.out))):w.heap.size ≤ gb259));clear HB;have HB:=n0_;have BK259:=n1_;have GW259:=n2_;have GE259:=n3_;clear n0_ n1_ n2_ n3_;clear hb hbox hg;have hcz22_0:w21.cell? ⟨gb259,0,none⟩ = some (.int .i64 0):=(zI BK259.out 0).trans rfl;have hcz22_1:w21.cell? ⟨gb259,1,none⟩ = some (.int .i64 0):=(zI BK259.out 1).trans rfl;have hfz22_0:=zJ BK259.out 0;have hfz22_1:=zJ BK259.out 1)|(go_at_call 56;(with_reducible refine (foretellref_In.calls ((rd_T94 l0 x8_1).f1) (-1000) 1000 true _ A14.out).mono ?_);rintro e w' ⟨rfl,⟨nd,rfl⟩⟩)|(go_at_call 56;(with_reducible refine (foretellref_In.calls ((rd_T94 l0 x8_1).f1) 0 (wrap64 (a1 - 1)) true _ A17.out).mono ?_);rintro e w' ⟨rfl,⟨nd,rfl⟩⟩))
              go_roundg k1
              case measure=>have:=HK1.out;omega
              case rel=>exact ⟨(wrap64 (x8_1 + 1)),(by first|rfl|(simp;done)|(simp [*];done)),H',⟨by have:=HK1.out;omega⟩,⟨by repeat (first|(with_reducible first|exact HB.out|apply zD|apply zC|apply zE|refine zF ?_ GE259.out)|exact HB.out)⟩⟩
             ·rw [if_neg c20] at H
              have c20b0:(((rd_T94 l0 x8_1).f1) == 0) = false:=beq_eq_false_iff_ne.mpr c20
              have c20b1:(((rd_T94 l0 x8_1).f1) != 0) = true:=bne_iff_ne.mpr c20
              simp only [Option.some.injEq,Prod.mk.injEq] at H
              obtain ⟨rfl,rfl⟩:=H
              have p258:0 ≤ (x8_1:Int):=zP (by assumption)
              have q258:x8_1 < (l0.length:Int):=zP (by assumption)
              obtain ⟨ad258,e258,hx258_0,hx258_1⟩:=at_T94 HR0.out x8_1 p258 q258
              cases e258
              replace hx258_0:=(HB.out.cell (zB w _ hx258_0)).trans hx258_0
              replace hx258_1:=(HB.out.cell (zB w _ hx258_1)).trans hx258_1
              replace p258:=eq_true p258
              replace q258:=eq_true q258
              go_wp2_with (first|((with_reducible refine zV (N:=9) rfl ?_);refine zW ?hg (N:=9) ?hd (cs:=#[.int .i64 0,.int .i64 0]) (t:=94) ?hr ?_;(case hd=>rfl);(case hg=>rfl);(case hr=>first|(go_simp;done)|(go_simp;rfl));intro gb259 hg w23 hbox hb;have n0_:=zA (zH (by repeat (first|(with_reducible first|exact HB.out|apply zD|apply zC|apply zE)|exact HB.out)) hb);have n1_:=zA (hbox);have n2_:=zA ((by rw [hg];exact (zG (by repeat (first|(with_reducible first|exact HB.out|apply zD|apply zC|apply zE)|exact HB.out))):w.heap.size ≤ gb259));have n3_:=zA ((by rw [hg];exact (zG (by repeat (first|(with_reducible first|exact HB.out|apply zD|apply zC|apply zE)|exact HB.out))):w.heap.size ≤ gb259));clear HB;have HB:=n0_;have BK259:=n1_;have GW259:=n2_;have GE259:=n3_;clear n0_ n1_ n2_ n3_;clear hb hbox hg;have hcz24_0:w23.cell? ⟨gb259,0,none⟩ = some (.int .i64 0):=(zI BK259.out 0).trans rfl;have hcz24_1:w23.cell? ⟨gb259,1,none⟩ = some (.int .i64 0):=(zI BK259.out 1).trans rfl;have hfz24_0:=zJ BK259.out 0;have hfz24_1:=zJ BK259.out 1)|(go_at_call 56;(with_reducible refine (foretellref_In.calls ((rd_T94 l0 x8_1).f1) (-1000) 1000 true _ A14.out).mono ?_);rintro e w' ⟨rfl,⟨nd,rfl⟩⟩)|(go_at_call 56;(with_reducible refine (foretellref_In.calls ((rd_T94 l0 x8_1).f1) 0 (wrap64 (a1 - 1)) true _ A17.out).mono ?_);rintro e w' ⟨rfl,⟨nd,rfl⟩⟩))
              go_ret2
              exact ⟨by first|rfl|(simp [errW_none,errW_some] <;> rfl)|(simp [*,errW_none,errW_some] <;> rfl),by repeat (first|(with_reducible first|exact HB.out|apply zD|apply zC|apply zE|refine zF ?_ GE259.out)|exact HB.out)⟩
            ·rw [if_neg c19] at H
             have c19b0:decide (2 < ((rd_T94 l0 x8_1).f0)) = false:=zR c19
             clear c19
             have H':=zA H
             clear H
             have p258:0 ≤ (x8_1:Int):=zP (by assumption)
             have q258:x8_1 < (l0.length:Int):=zP (by assumption)
             obtain ⟨ad258,e258,hx258_0,hx258_1⟩:=at_T94 HR0.out x8_1 p258 q258
             cases e258
             replace hx258_0:=(HB.out.cell (zB w _ hx258_0)).trans hx258_0
             replace hx258_1:=(HB.out.cell (zB w _ hx258_1)).trans hx258_1
             replace p258:=eq_true p258
             replace q258:=eq_true q258
             go_wp2_with (first|((with_reducible refine zV (N:=9) rfl ?_);refine zW ?hg (N:=9) ?hd (cs:=#[.int .i64 0,.int .i64 0]) (t:=94) ?hr ?_;(case hd=>rfl);(case hg=>rfl);(case hr=>first|(go_simp;done)|(go_simp;rfl));intro gb259 hg w25 hbox hb;have n0_:=zA (zH (by repeat (first|(with_reducible first|exact HB.out|apply zD|apply zC|apply zE)|exact HB.out)) hb);have n1_:=zA (hbox);have n2_:=zA ((by rw [hg];exact (zG (by repeat (first|(with_reducible first|exact HB.out|apply zD|apply zC|apply zE)|exact HB.out))):w.heap.size ≤ gb259));have n3_:=zA ((by rw [hg];exact (zG (by repeat (first|(with_reducible first|exact HB.out|apply zD|apply zC|apply zE)|exact HB.out))):w.heap.size ≤ gb259));clear HB;have HB:=n0_;have BK259:=n1_;have GW259:=n2_;have GE259:=n3_;clear n0_ n1_ n2_ n3_;clear hb hbox hg;have hcz26_0:w25.cell? ⟨gb259,0,none⟩ = some (.int .i64 0):=(zI BK259.out 0).trans rfl;have hcz26_1:w25.cell? ⟨gb259,1,none⟩ = some (.int .i64 0):=(zI BK259.out 1).trans rfl;have hfz26_0:=zJ BK259.out 0;have hfz26_1:=zJ BK259.out 1)|(go_at_call 56;(with_reducible refine (foretellref_In.calls ((rd_T94 l0 x8_1).f1) (-1000) 1000 true _ A14.out).mono ?_);rintro e w' ⟨rfl,⟨nd,rfl⟩⟩)|(go_at_call 56;(with_reducible refine (foretellref_In.calls ((rd_T94 l0 x8_1).f1) 0 (wrap64 (a1 - 1)) true _ A17.out).mono ?_);rintro e w' ⟨rfl,⟨nd,rfl⟩⟩))
             go_roundg k1
             case measure=>have:=HK1.out;omega
             case rel=>exact ⟨(wrap64 (x8_1 + 1)),(by first|rfl|(simp;done)|(simp [*];done)),H',⟨by have:=HK1.out;omega⟩,⟨by repeat (first|(with_reducible first|exact HB.out|apply zD|apply zC|apply zE|refine zF ?_ GE259.out)|exact HB.out)⟩⟩
           ·replace c18:=Bool.eq_false_iff.mpr c18
            subst c18
            have H1:(some (false,2)) = some (r1,r2):=by rw [if_neg (show ¬ (false = true) by decide)] at H;exact H
            clear H
            have H:=H1
            clear H1
            simp only [Option.some.injEq,Prod.mk.injEq] at H
            obtain ⟨rfl,rfl⟩:=H
            have p258:0 ≤ (x8_1:Int):=zP (by assumption)
            have q258:x8_1 < (l0.length:Int):=zP (by assumption)
            obtain ⟨ad258,e258,hx258_0,hx258_1⟩:=at_T94 HR0.out x8_1 p258 q258
            cases e258
            replace hx258_0:=(HB.out.cell (zB w _ hx258_0)).trans hx258_0
            replace hx258_1:=(HB.out.cell (zB w _ hx258_1)).trans hx258_1
            replace p258:=eq_true p258
            replace q258:=eq_true q258
            go_wp2_with (first|((with_reducible refine zV (N:=9) rfl ?_);refine zW ?hg (N:=9) ?hd (cs:=#[.int .i64 0,.int .i64 0]) (t:=94) ?hr ?_;(case hd=>rfl);(case hg=>rfl);(case hr=>first|(go_simp;done)|(go_simp;rfl));intro gb259 hg w27 hbox hb;have n0_:=zA (zH (by repeat (first|(with_reducible first|exact HB.out|apply zD|apply zC|apply zE)|exact HB.out)) hb);have n1_:=zA (hbox);have n2_:=zA ((by rw [hg];exact (zG (by repeat (first|(with_reducible first|exact HB.out|apply zD|apply zC|apply zE)|exact HB.out))):w.heap.size ≤ gb259));have n3_:=zA ((by rw [hg];exact (zG (by repeat (first|(with_reducible first|exact HB.out|apply zD|apply zC|apply zE)|exact HB.out))):w.heap.size ≤ gb259));clear HB;have HB:=n0_;have BK259:=n1_;have GW259:=n2_;have GE259:=n3_;clear n0_ n1_ n2_ n3_;clear hb hbox hg;have hcz28_0:w27.cell? ⟨gb259,0,none⟩ = some (.int .i64 0):=(zI BK259.out 0).trans rfl;have hcz28_1:w27.cell? ⟨gb259,1,none⟩ = some (.int .i64 0):=(zI BK259.out 1).trans rfl;have hfz28_0:=zJ BK259.out 0;have hfz28_1:=zJ BK259.out 1)|(go_at_call 56;(with_reducible refine (foretellref_In.calls ((rd_T94 l0 x8_1).f1) (-1000) 1000 true _ A14.out).mono ?_);rintro e w' ⟨rfl,⟨nd,rfl⟩⟩)|(go_at_call 56;(with_reducible refine (foretellref_In.calls ((rd_T94 l0 x8_1).f1) 0 (wrap64 (a1 - 1)) false _ A17.out).mono ?_);rintro e w' ⟨rfl,⟨nd,rfl⟩⟩))
            go_ret2
            exact ⟨by first|rfl|(simp [errW_none,errW_some] <;> rfl)|(simp [*,errW_none,errW_some] <;> rfl),by repeat (first|(with_reducible first|exact HB.out|apply zD|apply zC|apply zE|refine zF ?_ GE259.out)|exact HB.out)⟩
          ·rw [if_neg c16] at H
           have c16b0:(((rd_T94 l0 x8_1).f0) == 2) = false:=beq_eq_false_iff_ne.mpr c16
           have c16b1:(((rd_T94 l0 x8_1).f0) != 2) = true:=bne_iff_ne.mpr c16
           by_cases c29:((rd_T94 l0 x8_1).f0) > 2
           ·rw [if_pos c29] at H
            have c29b0:decide (2 < ((rd_T94 l0 x8_1).f0)) = true:=zQ c29
            clear c29
            by_cases c30:((rd_T94 l0 x8_1).f1) = 0
            ·rw [if_pos c30] at H
             have c30b0:(((rd_T94 l0 x8_1).f1) == 0) = true:=beq_iff_eq.mpr c30
             have c30b1:(((rd_T94 l0 x8_1).f1) != 0) = false:=bne_eq_false_iff_eq.mpr c30
             clear c30
             have H':=zA H
             clear H
             have p258:0 ≤ (x8_1:Int):=zP (by assumption)
             have q258:x8_1 < (l0.length:Int):=zP (by assumption)
             obtain ⟨ad258,e258,hx258_0,hx258_1⟩:=at_T94 HR0.out x8_1 p258 q258
             cases e258
             replace hx258_0:=(HB.out.cell (zB w _ hx258_0)).trans hx258_0
             replace hx258_1:=(HB.out.cell (zB w _ hx258_1)).trans hx258_1
             replace p258:=eq_true p258
             replace q258:=eq_true q258
             go_wp2_with (first|((with_reducible refine zV (N:=9) rfl ?_);refine zW ?hg (N:=9) ?hd (cs:=#[.int .i64 0,.int .i64 0]) (t:=94) ?hr ?_;(case hd=>rfl);(case hg=>rfl);(case hr=>first|(go_simp;done)|(go_simp;rfl));intro gb259 hg w31 hbox hb;have n0_:=zA (zH (by repeat (first|(with_reducible first|exact HB.out|apply zD|apply zC|apply zE)|exact HB.out)) hb);have n1_:=zA (hbox);have n2_:=zA ((by rw [hg];exact (zG (by repeat (first|(with_reducible first|exact HB.out|apply zD|apply zC|apply zE)|exact HB.out))):w.heap.size ≤ gb259));have n3_:=zA ((by rw [hg];exact (zG (by repeat (first|(with_reducible first|exact HB.out|apply zD|apply zC|apply zE)|exact HB.out))):w.heap.size ≤ gb259));clear HB;have HB:=n0_;have BK259:=n1_;have GW259:=n2_;have GE259:=n3_;clear n0_ n1_ n2_ n3_;clear hb hbox hg;have hcz32_0:w31.cell? ⟨gb259,0,none⟩ = some (.int .i64 0):=(zI BK259.out 0).trans rfl;have hcz32_1:w31.cell? ⟨gb259,1,none⟩ = some (.int .i64 0):=(zI BK259.out 1).trans rfl;have hfz32_0:=zJ BK259.out 0;have hfz32_1:=zJ BK259.out 1)|(go_at_call 56;(with_reducible refine (foretellref_In.calls ((rd_T94 l0 x8_1).f1) (-1000) 1000 true _ A14.out).mono ?_);rintro e w' ⟨rfl,⟨nd,rfl⟩⟩))
             go_roundg k1
             case measure=>have:=HK1.out;omega
             case rel=>exact ⟨(wrap64 (x8_1 + 1)),(by first|rfl|(simp;done)|(simp [*];done)),H',⟨by have:=HK1.out;omega⟩,⟨by repeat (first|(with_reducible first|exact HB.out|apply zD|apply zC|apply zE|refine zF ?_ GE259.out)|exact HB.out)⟩⟩
            ·rw [if_neg c30] at H
             have c30b0:(((rd_T94 l0 x8_1).f1) == 0) = false:=beq_eq_false_iff_ne.mpr c30
             have c30b1:(((rd_T94 l0 x8_1).f1) != 0) = true:=bne_iff_ne.mpr c30
             simp only [Option.some.injEq,Prod.mk.injEq] at H
             obtain ⟨rfl,rfl⟩:=H
             have p258:0 ≤ (x8_1:Int):=zP (by assumption)
             have q258:x8_1 < (l0.length:Int):=zP (by assumption)
             obtain ⟨ad258,e258,hx258_0,hx258_1⟩:=at_T94 HR0.out x8_1 p258 q258
             cases e258
             replace hx258_0:=(HB.out.cell (zB w _ hx258_0)).trans hx258_0
             replace hx258_1:=(HB.out.cell (zB w _ hx258_1)).trans hx258_1
             replace p258:=eq_true p258
             replace q258:=eq_true q258
             go_wp2_with (first|((with_reducible refine zV (N:=9) rfl ?_);refine zW ?hg (N:=9) ?hd (cs:=#[.int .i64 0,.int .i64 0]) (t:=94) ?hr ?_;(case hd=>rfl);(case hg=>rfl);(case hr=>first|(go_simp;done)|(go_simp;rfl));intro gb259 hg w33 hbox hb;have n0_:=zA (zH (by repeat (first|(with_reducible first|exact HB.out|apply zD|apply zC|apply zE)|exact HB.out)) hb);have n1_:=zA (hbox);have n2_:=zA ((by rw [hg];exact (zG (by repeat (first|(with_reducible first|exact HB.out|apply zD|apply zC|apply zE)|exact HB.out))):w.heap.size ≤ gb259));have n3_:=zA ((by rw [hg];exact (zG (by repeat (first|(with_reducible first|exact HB.out|apply zD|apply zC|apply zE)|exact HB.out))):w.heap.size ≤ gb259));clear HB;have HB:=n0_;have BK259:=n1_;have GW259:=n2_;have GE259:=n3_;clear n0_ n1_ n2_ n3_;clear hb hbox hg;have hcz34_0:w33.cell? ⟨gb259,0,none⟩ = some (.int .i64 0):=(zI BK259.out 0).trans rfl;have hcz34_1:w33.cell? ⟨gb259,1,none⟩ = some (.int .i64 0):=(zI BK259.out 1).trans rfl;have hfz34_0:=zJ BK259.out 0;have hfz34_1:=zJ BK259.out 1)|(go_at_call 56;(with_reducible refine (foretellref_In.calls ((rd_T94 l0 x8_1).f1) (-1000) 1000 true _ A14.out).mono ?_);rintro e w' ⟨rfl,⟨nd,rfl⟩⟩))
             go_ret2
             exact ⟨by first|rfl|(simp [errW_none,errW_some] <;> rfl)|(simp [*,errW_none,errW_some] <;> rfl),by repeat (first|(with_reducible first|exact HB.out|apply zD|apply zC|apply zE|refine zF ?_ GE259.out)|exact HB.out)⟩
           ·rw [if_neg c29] at H
            have c29b0:decide (2 < ((rd_T94 l0 x8_1).f0)) = false:=zR c29
            clear c29
            have H':=zA H
            clear H
            have p258:0 ≤ (x8_1:Int):=zP (by assumption)
            have q258:x8_1 < (l0.length:Int):=zP (by assumption)
            obtain ⟨ad258,e258,hx258_0,hx258_1⟩:=at_T94 HR0.out x8_1 p258 q258
            cases e258
            replace hx258_0:=(HB.out.cell (zB w _ hx258_0)).trans hx258_0
            replace hx258_1:=(HB.out.cell (zB w _ hx258_1)).trans hx258_1
            replace p258:=eq_true p258
            replace q258:=eq_true q258
            go_wp2_with (first|((with_reducible refine zV (N:=9) rfl ?_);refine zW ?hg (N:=9) ?hd (cs:=#[.int .i64 0,.int .i64 0]) (t:=94) ?hr ?_;(case hd=>rfl);(case hg=>rfl);(case hr=>first|(go_simp;done)|(go_simp;rfl));intro gb259 hg w35 hbox hb;have n0_:=zA (zH (by repeat (first|(with_reducible first|exact HB.out|apply zD|apply zC|apply zE)|exact HB.out)) hb);have n1_:=zA (hbox);have n2_:=zA ((by rw [hg];exact (zG (by repeat (first|(with_reducible first|exact HB.out|apply zD|apply zC|apply zE)|exact HB.out))):w.heap.size ≤ gb259));have n3_:=zA ((by rw [hg];exact (zG (by repeat (first|(with_reducible first|exact HB.out|apply zD|apply zC|apply zE)|exact HB.out))):w.heap.size ≤ gb259));clear HB;have HB:=n0_;have BK259:=n1_;have GW259:=n2_;have GE259:=n3_;clear n0_ n1_ n2_ n3_;clear hb hbox hg;have hcz36_0:w35.cell? ⟨gb259,0,none⟩ = some (.int .i64 0):=(zI BK259.out 0).trans rfl;have hcz36_1:w35.cell? ⟨gb259,1,none⟩ = some (.int .i64 0):=(zI BK259.out 1).trans rfl;have hfz36_0:=zJ BK259.out 0;have hfz36_1:=zJ BK259.out 1)|(go_at_call 56;(with_reducible refine (foretellref_In.calls ((rd_T94 l0 x8_1).f1) (-1000) 1000 true _ A14.out).mono ?_);rintro e w' ⟨rfl,⟨nd,rfl⟩⟩))
            go_roundg k1
            case measure=>have:=HK1.out;omega
            case rel=>exact ⟨(wrap64 (x8_1 + 1)),(by first|rfl|(simp;done)|(simp [*];done)),H',⟨by have:=HK1.out;omega⟩,⟨by repeat (first|(with_reducible first|exact HB.out|apply zD|apply zC|apply zE|refine zF ?_ GE259.out)|exact HB.out)⟩⟩
         ·replace c15:=Bool.eq_false_iff.mpr c15
          subst c15
          have H1:(some (false,2)) = some (r1,r2):=by rw [if_neg (show ¬ (false = true) by decide)] at H;exact H
          clear H
          have H:=H1
          clear H1
          simp only [Option.some.injEq,Prod.mk.injEq] at H
          obtain ⟨rfl,rfl⟩:=H
          have p258:0 ≤ (x8_1:Int):=zP (by assumption)
          have q258:x8_1 < (l0.length:Int):=zP (by assumption)
          obtain ⟨ad258,e258,hx258_0,hx258_1⟩:=at_T94 HR0.out x8_1 p258 q258
          cases e258
          replace hx258_0:=(HB.out.cell (zB w _ hx258_0)).trans hx258_0
          replace hx258_1:=(HB.out.cell (zB w _ hx258_1)).trans hx258_1
          replace p258:=eq_true p258
          replace q258:=eq_true q258
          go_wp2_with (first|((with_reducible refine zV (N:=9) rfl ?_);refine zW ?hg (N:=9) ?hd (cs:=#[.int .i64 0,.int .i64 0]) (t:=94) ?hr ?_;(case hd=>rfl);(case hg=>rfl);(case hr=>first|(go_simp;done)|(go_simp;rfl));intro gb259 hg w37 hbox hb;have n0_:=zA (zH (by repeat (first|(with_reducible first|exact HB.out|apply zD|apply zC|apply zE)|exact HB.out)) hb);have n1_:=zA (hbox);have n2_:=zA ((by rw [hg];exact (zG (by repeat (first|(with_reducible first|exact HB.out|apply zD|apply zC|apply zE)|exact HB.out))):w.heap.size ≤ gb259));have n3_:=zA ((by rw [hg];exact (zG (by repeat (first|(with_reducible first|exact HB.out|apply zD|apply zC|apply zE)|exact HB.out))):w.heap.size ≤ gb259));clear HB;have HB:=n0_;have BK259:=n1_;have GW259:=n2_;have GE259:=n3_;clear n0_ n1_ n2_ n3_;clear hb hbox hg;have hcz38_0:w37.cell? ⟨gb259,0,none⟩ = some (.int .i64 0):=(zI BK259.out 0).trans rfl;have hcz38_1:w37.cell? ⟨gb259,1,none⟩ = some (.int .i64 0):=(zI BK259.out 1).trans rfl;have hfz38_0:=zJ BK259.out 0;have hfz38_1:=zJ BK259.out 1)|(go_at_call 56;(with_reducible refine (foretellref_In.calls ((rd_T94 l0 x8_1).f1) (-1000) 1000 false _ A14.out).mono ?_);rintro e w' ⟨rfl,⟨nd,rfl⟩⟩))
          go_ret2
          exact ⟨by first|rfl|(simp [errW_none,errW_some] <;> rfl)|(simp [*,errW_none,errW_some] <;> rfl),by repeat (first|(with_reducible first|exact HB.out|apply zD|apply zC|apply zE|refine zF ?_ GE259.out)|exact HB.out)⟩
        ·rw [if_neg c13] at H
         have c13b0:(((rd_T94 l0 x8_1).f0) == 1) = false:=beq_eq_false_iff_ne.mpr c13
         have c13b1:(((rd_T94 l0 x8_1).f0) != 1) = true:=bne_iff_ne.mpr c13
         by_cases c39:((rd_T94 l0 x8_1).f0) = 2
         ·rw [if_pos c39] at H
          have c39b0:(((rd_T94 l0 x8_1).f0) == 2) = true:=beq_iff_eq.mpr c39
          have c39b1:(((rd_T94 l0 x8_1).f0) != 2) = false:=bne_eq_false_iff_eq.mpr c39
          clear c39
          replace H:=zb.mp H
          obtain ⟨t262,A400,H⟩:=H
          replace H:(if t262 = true then (if ((rd_T94 l0 x8_1).f0) > 2 then (if ((rd_T94 l0 x8_1).f1) = 0 then (foretellref_ExprChecked.l0 k1 l0 a1 (wrap64 (x8_1 + 1))) else (some (false,2))) else (foretellref_ExprChecked.l0 k1 l0 a1 (wrap64 (x8_1 + 1)))) else (some (false,2))) = some (r1,r2):=H
          have A40:=zA A400
          clear A400
          by_cases c41:t262 = true
          ·subst c41
           have H1:(if ((rd_T94 l0 x8_1).f0) > 2 then (if ((rd_T94 l0 x8_1).f1) = 0 then (foretellref_ExprChecked.l0 k1 l0 a1 (wrap64 (x8_1 + 1))) else (some (false,2))) else (foretellref_ExprChecked.l0 k1 l0 a1 (wrap64 (x8_1 + 1)))) = some (r1,r2):=by rw [if_pos rfl] at H;exact H
           clear H
           have H:=H1
           clear H1
           by_cases c42:((rd_T94 l0 x8_1).f0) > 2
           ·rw [if_pos c42] at H
            have c42b0:decide (2 < ((rd_T94 l0 x8_1).f0)) = true:=zQ c42
            clear c42
            by_cases c43:((rd_T94 l0 x8_1).f1) = 0
            ·rw [if_pos c43] at H
             have c43b0:(((rd_T94 l0 x8_1).f1) == 0) = true:=beq_iff_eq.mpr c43
             have c43b1:(((rd_T94 l0 x8_1).f1) != 0) = false:=bne_eq_false_iff_eq.mpr c43
             clear c43
             have H':=zA H
             clear H
             have p258:0 ≤ (x8_1:Int):=zP (by assumption)
             have q258:x8_1 < (l0.length:Int):=zP (by assumption)
             obtain ⟨ad258,e258,hx258_0,hx258_1⟩:=at_T94 HR0.out x8_1 p258 q258
             cases e258
             replace hx258_0:=(HB.out.cell (zB w _ hx258_0)).trans hx258_0
             replace hx258_1:=(HB.out.cell (zB w _ hx258_1)).trans hx258_1
             replace p258:=eq_true p258
             replace q258:=eq_true q258
             go_wp2_with (first|((with_reducible refine zV (N:=9) rfl ?_);refine zW ?hg (N:=9) ?hd (cs:=#[.int .i64 0,.int .i64 0]) (t:=94) ?hr ?_;(case hd=>rfl);(case hg=>rfl);(case hr=>first|(go_simp;done)|(go_simp;rfl));intro gb259 hg w44 hbox hb;have n0_:=zA (zH (by repeat (first|(with_reducible first|exact HB.out|apply zD|apply zC|apply zE)|exact HB.out)) hb);have n1_:=zA (hbox);have n2_:=zA ((by rw [hg];exact (zG (by repeat (first|(with_reducible first|exact HB.out|apply zD|apply zC|apply zE)|exact HB.out))):w.heap.size ≤ gb259));have n3_:=zA ((by rw [hg];exact (zG (by repeat (first|(with_reducible first|exact HB.out|apply zD|apply zC|apply zE)|exact HB.out))):w.heap.size ≤ gb259));clear HB;have HB:=n0_;have BK259:=n1_;have GW259:=n2_;have GE259:=n3_;clear n0_ n1_ n2_ n3_;clear hb hbox hg;have hcz45_0:w44.cell? ⟨gb259,0,none⟩ = some (.int .i64 0):=(zI BK259.out 0).trans rfl;have hcz45_1:w44.cell? ⟨gb259,1,none⟩ = some (.int .i64 0):=(zI BK259.out 1).trans rfl;have hfz45_0:=zJ BK259.out 0;have hfz45_1:=zJ BK259.out 1)|(go_at_call 56;(with_reducible refine (foretellref_In.calls ((rd_T94 l0 x8_1).f1) 0 (wrap64 (a1 - 1)) true _ A40.out).mono ?_);rintro e w' ⟨rfl,⟨nd,rfl⟩⟩))
             go_roundg k1
             case measure=>have:=HK1.out;omega
             case rel=>exact ⟨(wrap64 (x8_1 + 1)),(by first|rfl|(simp;done)|(simp [*];done)),H',⟨by have:=HK1.out;omega⟩,⟨by repeat (first|(with_reducible first|exact HB.out|apply zD|apply zC|apply zE|refine zF ?_ GE259.out)|exact HB.out)⟩⟩
            ·rw [if_neg c43] at H
             have c43b0:(((rd_T94 l0 x8_1).f1) == 0) = false:=beq_eq_false_iff_ne.mpr c43
             have c43b1:(((rd_T94 l0 x8_1).f1) != 0) = true:=bne_iff_ne.mpr c43
             simp only [Option.some.injEq,Prod.mk.injEq] at H
             obtain ⟨rfl,rfl⟩:=H
             have p258:0 ≤ (x8_1:Int):=zP (by assumption)
             have q258:x8_1 < (l0.length:Int):=zP (by assumption)
             obtain ⟨ad258,e258,hx258_0,hx258_1⟩:=at_T94 HR0.out x8_1 p258 q258
             cases e258
             replace hx258_0:=(HB.out.cell (zB w _ hx258_0)).trans hx258_0
             replace hx258_1:=(HB.out.cell (zB w _ hx258_1)).trans hx258_1
             replace p258:=eq_true p258
             replace q258:=eq_true q258
             go_wp2_with (first|((with_reducible refine zV (N:=9) rfl ?_);refine zW ?hg (N:=9) ?hd (cs:=#[.int .i64 0,.int .i64 0]) (t:=94) ?hr ?_;(case hd=>rfl);(case hg=>rfl);(case hr=>first|(go_simp;done)|(go_simp;rfl));intro gb259 hg w46 hbox hb;have n0_:=zA (zH (by repeat (first|(with_reducible first|exact HB.out|apply zD|apply zC|apply zE)|exact HB.out)) hb);have n1_:=zA (hbox);have n2_:=zA ((by rw [hg];exact (zG (by repeat (first|(with_reducible first|exact HB.out|apply zD|apply zC|apply zE)|exact HB.out))):w.heap.size ≤ gb259));have n3_:=zA ((by rw [hg];exact (zG (by repeat (first|(with_reducible first|exact HB.out|apply zD|apply zC|apply zE)|exact HB.out))):w.heap.size ≤ gb259));clear HB;have HB:=n0_;have BK259:=n1_;have GW259:=n2_;have GE259:=n3_;clear n0_ n1_ n2_ n3_;clear hb hbox hg;have hcz47_0:w46.cell? ⟨gb259,0,none⟩ = some (.int .i64 0):=(zI BK259.out 0).trans rfl;have hcz47_1:w46.cell? ⟨gb259,1,none⟩ = some (.int .i64 0):=(zI BK259.out 1).trans rfl;have hfz47_0:=zJ BK259.out 0;have hfz47_1:=zJ BK259.out 1)|(go_at_call 56;(with_reducible refine (foretellref_In.calls ((rd_T94 l0 x8_1).f1) 0 (wrap64 (a1 - 1)) true _ A40.out).mono ?_);rintro e w' ⟨rfl,⟨nd,rfl⟩⟩))
             go_ret2
             exact ⟨by first|rfl|(simp [errW_none,errW_some] <;> rfl)|(simp [*,errW_none,errW_some] <;> rfl),by repeat (first|(with_reducible first|exact HB.out|apply zD|apply zC|apply zE|refine zF ?_ GE259.out)|exact HB.out)⟩
           ·rw [if_neg c42] at H
            have c42b0:decide (2 < ((rd_T94 l0 x8_1).f0)) = false:=zR c42
            clear c42
            have H':=zA H
            clear H
            have p258:0 ≤ (x8_1:Int):=zP (by assumption)
            have q258:x8_1 < (l0.length:Int):=zP (by assumption)
            obtain ⟨ad258,e258,hx258_0,hx258_1⟩:=at_T94 HR0.out x8_1 p258 q258
            cases e258
            replace hx258_0:=(HB.out.cell (zB w _ hx258_0)).trans hx258_0
            replace hx258_1:=(HB.out.cell (zB w _ hx258_1)).trans hx258_1
            replace p258:=eq_true p258
            replace q258:=eq_true q258
            go_wp2_with (first|((with_reducible refine zV (N:=9) rfl ?_);refine zW ?hg (N:=9) ?hd (cs:=#[.int .i64 0,.int .i64 0]) (t:=94) ?hr ?_;(case hd=>rfl);(case hg=>rfl);(case hr=>first|(go_simp;done)|(go_simp;rfl));intro gb259 hg w48 hbox hb;have n0_:=zA (zH (by repeat (first|(with_reducible first|exact HB.out|apply zD|apply zC|apply zE)|exact HB.out)) hb);have n1_:=zA (hbox);have n2_:=zA ((by rw [hg];exact (zG (by repeat (first|(with_reducible first|exact HB.out|apply zD|apply zC|apply zE)|exact HB.out))):w.heap.size ≤ gb259));have n3_:=zA ((by rw [hg];exact (zG (by repeat (first|(with_reducible first|exact HB.out|apply zD|apply zC|apply zE)|exact HB.out))):w.heap.size ≤ gb259));clear HB;have HB:=n0_;have BK259:=n1_;have GW259:=n2_;have GE259:=n3_;clear n0_ n1_ n2_ n3_;clear hb hbox hg;have hcz49_0:w48.cell? ⟨gb259,0,none⟩ = some (.int .i64 0):=(zI BK259.out 0).trans rfl;have hcz49_1:w48.cell? ⟨gb259,1,none⟩ = some (.int .i64 0):=(zI BK259.out 1).trans rfl;have hfz49_0:=zJ BK259.out 0;have hfz49_1:=zJ BK259.out 1)|(go_at_call 56;(with_reducible refine (foretellref_In.calls ((rd_T94 l0 x8_1).f1) 0 (wrap64 (a1 - 1)) true _ A40.out).mono ?_);rintro e w' ⟨rfl,⟨nd,rfl⟩⟩))
            go_roundg k1
            case measure=>have:=HK1.out;omega
            case rel=>exact ⟨(wrap64 (x8_1 + 1)),(by first|rfl|(simp;done)|(simp [*];done)),H',⟨by have:=HK1.out;omega⟩,⟨by repeat (first|(with_reducible first|exact HB.out|apply zD|apply zC|apply zE|refine zF ?_ GE259.out)|exact HB.out)⟩⟩
          ·replace c41:=Bool.eq_false_iff.mpr c41
           subst c41
           have H1:(some (false,2)) = some (r1,r2):=by rw [if_neg (show ¬ (false = true) by decide)] at H;exact H
           clear H
           have H:=H1
           clear H1
           simp only [Option.some.injEq,Prod.mk.injEq] at H
           obtain ⟨rfl,rfl⟩:=H
           have p258:0 ≤ (x8_1:Int):=zP (by assumption)
           have q258:x8_1 < (l0.length:Int):=zP (by assumption)
           obtain ⟨ad258,e258,hx258_0,hx258_1⟩:=at_T94 HR0.out x8_1 p258 q258
           cases e258
           replace hx258_0:=(HB.out.cell (zB w _ hx258_0)).trans hx258_0
           replace hx258_1:=(HB.out.cell (zB w _ hx258_1)).trans hx258_1
           replace p258:=eq_true p258
           replace q258:=eq_true q258
           go_wp2_with (first|((with_reducible refine zV (N:=9) rfl ?_);refine zW ?hg (N:=9) ?hd (cs:=#[.int .i64 0,.int .i64 0]) (t:=94) ?hr ?_;(case hd=>rfl);(case hg=>rfl);(case hr=>first|(go_simp;done)|(go_simp;rfl));intro gb259 hg w50 hbox hb;have n0_:=zA (zH (by repeat (first|(with_reducible first|exact HB.out|apply zD|apply zC|apply zE)|exact HB.out)) hb);have n1_:=zA (hbox);have n2_:=zA ((by rw [hg];exact (zG (by repeat (first|(with_reducible first|exact HB.out|apply zD|apply zC|apply zE)|exact HB.out))):w.heap.size ≤ gb259));have n3_:=zA ((by rw [hg];exact (zG (by repeat (first|(with_reducible first|exact HB.out|apply zD|apply zC|apply zE)|exact HB.out))):w.heap.size ≤ gb259));clear HB;have HB:=n0_;have BK259:=n1_;have GW259:=n2_;have GE259:=n3_;clear n0_ n1_ n2_ n3_;clear hb hbox hg;have hcz51_0:w50.cell? ⟨gb259,0,none⟩ = some (.int .i64 0):=(zI BK259.out 0).trans rfl;have hcz51_1:w50.cell? ⟨gb259,1,none⟩ = some (.int .i64 0):=(zI BK259.out 1).trans rfl;have hfz51_0:=zJ BK259.out 0;have hfz51_1:=zJ BK259.out 1)|(go_at_call 56;(with_reducible refine (foretellref_In.calls ((rd_T94 l0 x8_1).f1) 0 (wrap64 (a1 - 1)) false _ A40.out).mono ?_);rintro e w' ⟨rfl,⟨nd,rfl⟩⟩))
           go_ret2
           exact ⟨by first|rfl|(simp [errW_none,errW_some] <;> rfl)|(simp [*,errW_none,errW_some] <;> rfl),by repeat (first|(with_reducible first|exact HB.out|apply zD|apply zC|apply zE|refine zF ?_ GE259.out)|exact HB.out)⟩
         ·rw [if_neg c39] at H
          have c39b0:(((rd_T94 l0 x8_1).f0) == 2) = false:=beq_eq_false_iff_ne.mpr c39
          have c39b1:(((rd_T94 l0 x8_1).f0) != 2) = true:=bne_iff_ne.mpr c39
          by_cases c52:((rd_T94 l0 x8_1).f0) > 2
          ·rw [if_pos c52] at H
           have c52b0:decide (2 < ((rd_T94 l0 x8_1).f0)) = true:=zQ c52
           clear c52
           by_cases c53:((rd_T94 l0 x8_1).f1) = 0
           ·rw [if_pos c53] at H
            have c53b0:(((rd_T94 l0 x8_1).f1) == 0) = true:=beq_iff_eq.mpr c53
            have c53b1:(((rd_T94 l0 x8_1).f1) != 0) = false:=bne_eq_false_iff_eq.mpr c53
            clear c53
            have H':=zA H
            clear H
            have p258:0 ≤ (x8_1:Int):=zP (by assumption)
            have q258:x8_1 < (l0.length:Int):=zP (by assumption)
            obtain ⟨ad258,e258,hx258_0,hx258_1⟩:=at_T94 HR0.out x8_1 p258 q258
            cases e258
            replace hx258_0:=(HB.out.cell (zB w _ hx258_0)).trans hx258_0
            replace hx258_1:=(HB.out.cell (zB w _ hx258_1)).trans hx258_1
            replace p258:=eq_true p258
            replace q258:=eq_true q258
            go_wp2_with (first|((with_reducible refine zV (N:=9) rfl ?_);refine zW ?hg (N:=9) ?hd (cs:=#[.int .i64 0,.int .i64 0]) (t:=94) ?hr ?_;(case hd=>rfl);(case hg=>rfl);(case hr=>first|(go_simp;done)|(go_simp;rfl));intro gb259 hg w54 hbox hb;have n0_:=zA (zH (by repeat (first|(with_reducible first|exact HB.out|apply zD|apply zC|apply zE)|exact HB.out)) hb);have n1_:=zA (hbox);have n2_:=zA ((by rw [hg];exact (zG (by repeat (first|(with_reducible first|exact HB.out|apply zD|apply zC|apply zE)|exact HB.out))):w.heap.size ≤ gb259));have n3_:=zA ((by rw [hg];exact (zG (by repeat (first|(with_reducible first|exact HB.out|apply zD|apply zC|apply zE)|exact HB.out))):w.heap.size ≤ gb259));clear HB;have HB:=n0_;have BK259:=n1_;have GW259:=n2_;have GE259:=n3_;clear n0_ n1_ n2_ n3_;clear hb hbox hg;have hcz55_0:w54.cell? ⟨gb259,0,none⟩ = some (.int .i64 0):=(zI BK259.out 0).trans rfl;have hcz55_1:w54.cell? ⟨gb259,1,none⟩ = some (.int .i64 0):=(zI BK259.out 1).trans rfl;have hfz55_0:=zJ BK259.out 0;have hfz55_1:=zJ BK259.out 1))
            go_roundg k1
            case measure=>have:=HK1.out;omega
            case rel=>exact ⟨(wrap64 (x8_1 + 1)),(by first|rfl|(simp;done)|(simp [*];done)),H',⟨by have:=HK1.out;omega⟩,⟨by repeat (first|(with_reducible first|exact HB.out|apply zD|apply zC|apply zE|refine zF ?_ GE259.out)|exact HB.out)⟩⟩
           ·rw [if_neg c53] at H
            have c53b0:(((rd_T94 l0 x8_1).f1) == 0) = false:=beq_eq_false_iff_ne.mpr c53
            have c53b1:(((rd_T94 l0 x8_1).f1) != 0) = true:=bne_iff_ne.mpr c53
            simp only [Option.some.injEq,Prod.mk.injEq] at H
            obtain ⟨rfl,rfl⟩:=H
            have p258:0 ≤ (x8_1:Int):=zP (by assumption)
            have q258:x8_1 < (l0.length:Int):=zP (by assumption)
            obtain ⟨ad258,e258,hx258_0,hx258_1⟩:=at_T94 HR0.out x8_1 p258 q258
            cases e258
            replace hx258_0:=(HB.out.cell (zB w _ hx258_0)).trans hx258_0
            replace hx258_1:=(HB.out.cell (zB w _ hx258_1)).trans hx258_1
            replace p258:=eq_true p258
            replace q258:=eq_true q258
            go_wp2_with (first|((with_reducible refine zV (N:=9) rfl ?_);refine zW ?hg (N:=9) ?hd (cs:=#[.int .i64 0,.int .i64 0]) (t:=94) ?hr ?_;(case hd=>rfl);(case hg=>rfl);(case hr=>first|(go_simp;done)|(go_simp;rfl));intro gb259 hg w56 hbox hb;have n0_:=zA (zH (by repeat (first|(with_reducible first|exact HB.out|apply zD|apply zC|apply zE)|exact HB.out)) hb);have n1_:=zA (hbox);have n2_:=zA ((by rw [hg];exact (zG (by repeat (first|(with_reducible first|exact HB.out|apply zD|apply zC|apply zE)|exact HB.out))):w.heap.size ≤ gb259));have n3_:=zA ((by rw [hg];exact (zG (by repeat (first|(with_reducible first|exact HB.out|apply zD|apply zC|apply zE)|exact HB.out))):w.heap.size ≤ gb259));clear HB;have HB:=n0_;have BK259:=n1_;have GW259:=n2_;have GE259:=n3_;clear n0_ n1_ n2_ n3_;clear hb hbox hg;have hcz57_0:w56.cell? ⟨gb259,0,none⟩ = some (.int .i64 0):=(zI BK259.out 0).trans rfl;have hcz57_1:w56.cell? ⟨gb259,1,none⟩ = some (.int .i64 0):=(zI BK259.out 1).trans rfl;have hfz57_0:=zJ BK259.out 0;have hfz57_1:=zJ BK259.out 1))
            go_ret2
            exact ⟨by first|rfl|(simp [errW_none,errW_some] <;> rfl)|(simp [*,errW_none,errW_some] <;> rfl),by repeat (first|(with_reducible first|exact HB.out|apply zD|apply zC|apply zE|refine zF ?_ GE259.out)|exact HB.out)⟩
          ·rw [if_neg c52] at H
           have c52b0:decide (2 < ((rd_T94 l0 x8_1).f0)) = false:=zR c52
           clear c52
           have H':=zA H
           clear H
           have p258:0 ≤ (x8_1:Int):=zP (by assumption)
           have q258:x8_1 < (l0.length:Int):=zP (by assumption)
           obtain ⟨ad258,e258,hx258_0,hx258_1⟩:=at_T94 HR0.out x8_1 p258 q258
           cases e258
           replace hx258_0:=(HB.out.cell (zB w _ hx258_0)).trans hx258_0
           replace hx258_1:=(HB.out.cell (zB w _ hx258_1)).trans hx258_1
           replace p258:=eq_true p258
           replace q258:=eq_true q258
           go_wp2_with (first|((with_reducible refine zV (N:=9) rfl ?_);refine zW ?hg (N:=9) ?hd (cs:=#[.int .i64 0,.int .i64 0]) (t:=94) ?hr ?_;(case hd=>rfl);(case hg=>rfl);(case hr=>first|(go_simp;done)|(go_simp;rfl));intro gb259 hg w58 hbox hb;have n0_:=zA (zH (by repeat (first|(with_reducible first|exact HB.out|apply zD|apply zC|apply zE)|exact HB.out)) hb);have n1_:=zA (hbox);have n2_:=zA ((by rw [hg];exact (zG (by repeat (first|(with_reducible first|exact HB.out|apply zD|apply zC|apply zE)|exact HB.out))):w.heap.size ≤ gb259));have n3_:=zA ((by rw [hg];exact (zG (by repeat (first|(with_reducible first|exact HB.out|apply zD|apply zC|apply zE)|exact HB.out))):w.heap.size ≤ gb259));clear HB;have HB:=n0_;have BK259:=n1_;have GW259:=n2_;have GE259:=n3_;clear n0_ n1_ n2_ n3_;clear hb hbox hg;have hcz59_0:w58.cell? ⟨gb259,0,none⟩ = some (.int .i64 0):=(zI BK259.out 0).trans rfl;have hcz59_1:w58.cell? ⟨gb259,1,none⟩ = some (.int .i64 0):=(zI BK259.out 1).trans rfl;have hfz59_0:=zJ BK259.out 0;have hfz59_1:=zJ BK259.out 1))
           go_roundg k1
           case measure=>have:=HK1.out;omega
           case rel=>exact ⟨(wrap64 (x8_1 + 1)),(by first|rfl|(simp;done)|(simp [*];done)),H',⟨by have:=HK1.out;omega⟩,⟨by repeat (first|(with_reducible first|exact HB.out|apply zD|apply zC|apply zE|refine zF ?_ GE259.out)|exact HB.out)⟩⟩
      ·rw [if_neg c9] at H
       exact absurd H (by simp)
     ·rw [if_neg c8] at H
      have c8b0:decide (x8_1 < (l0.length:Int)) = false:=zR c8
      clear c8
      replace H:=zb.mp H
      obtain ⟨t263,A600,H⟩:=H
      replace H:(if t263 = 0 then (if 0 < (l0.length:Int) then ((foretellref_makesTruth.f ((rd_T94 l0 0).f0)).bind fun t265=>(some (t265,0))) else (none)) else (some (false,5))) = some (r1,r2):=H
      have A60:=zA A600
      clear A600
      by_cases c61:t263 = 0
      ·rw [if_pos c61] at H
       have c61b0:(t263 == 0) = true:=beq_iff_eq.mpr c61
       have c61b1:(t263 != 0) = false:=bne_eq_false_iff_eq.mpr c61
       clear c61
       by_cases c62:0 < (l0.length:Int)
       ·rw [if_pos c62] at H
        have c62b0:decide (0 < (l0.length:Int)) = true:=zQ c62
        have c62b1:decide (0 < l0.length) = true:=zQ (by omega)
        clear c62
        replace H:=zb.mp H
        obtain ⟨t265,A630,H⟩:=H
        replace H:(some (t265,0)) = some (r1,r2):=H
        have A63:=zA A630
        clear A630
        simp only [Option.some.injEq,Prod.mk.injEq] at H
        obtain ⟨rfl,rfl⟩:=H
        go_wp2_with (first|((with_reducible refine zU (f:=88) rfl ?_);refine goesL_ (some 67) rfl rfl Tryd.func88 (by kernel_rfl) rfl #[.slice A0 l0.length c0] rfl (by (try simp only [zx,zy,zz]);first|done|rfl|(simp only [zd,zt];rfl)) ?_;(with_reducible refine (foretellref_typed.calls k1 _ _ l0 t263 _ ?side1 ?side2 A60.out).mono ?_);(case side1=>repeat (first|exact (zT HR0.out HB.out)|(with_reducible refine Kd.C_alloc ?_ _)|(with_reducible refine Kd.C_drewN ?_ _)|(with_reducible refine Kd.C_drew ?_)));(case side2=>exact HC0.out);rintro e w64 ⟨rfl,hb⟩;refine ⟨_,rfl,?_⟩;have n0_:=zA (zH (by repeat (first|(with_reducible first|exact HB.out|apply zD|apply zC|apply zE)|exact HB.out)) hb);clear HB;have HB:=n0_;clear n0_;(try clear hb);(try clear hb2);(try clear hk);(try clear hi);have p264:0 ≤ (0:Int):=(by omega);have q264:0 < (l0.length:Int):=zP (by assumption);obtain ⟨ad264,e264,hx264_0,hx264_1⟩:=at_T94 HR0.out 0 p264 q264;cases e264;have qi264:(0 < l0.length) = True:=eq_true (by omega);(try rw [show ((0:Int)).toNat = 0 from rfl] at hx264_0);(try rw [show 0 * 2 = 0 from rfl] at hx264_0);(try rw [Addr.add_zero'] at hx264_0);(try rw [show ((0:Int)).toNat = 0 from rfl] at hx264_1);(try rw [show 0 * 2 = 0 from rfl] at hx264_1);(try rw [Addr.add_zero'] at hx264_1);replace hx264_0:=(HB.out.cell (zB w _ hx264_0)).trans hx264_0;replace hx264_1:=(HB.out.cell (zB w _ hx264_1)).trans hx264_1;replace p264:=eq_true p264;replace q264:=eq_true q264)|((with_reducible refine zU (f:=89) rfl ?_);refine goesL_ (some 73) rfl rfl Tryd.func89 (by kernel_rfl) rfl #[.int .i64 ((rd_T94 l0 0).f0)] rfl (by (try simp only [zx,zy,zz]);first|done|rfl|(simp only [zd,zt];rfl)) ?_;(with_reducible refine (foretellref_makesTruth.calls ((rd_T94 l0 0).f0) t265 _ A63.out).mono ?_);rintro e w' ⟨rfl,⟨nd,rfl⟩⟩;refine ⟨_,rfl,?_⟩))
        go_ret2
        exact ⟨by first|rfl|(simp [errW_none,errW_some] <;> rfl)|(simp [*,errW_none,errW_some] <;> rfl),by repeat (first|(with_reducible first|exact HB.out|apply zD|apply zC|apply zE)|exact HB.out)⟩
       ·rw [if_neg c62] at H
        exact absurd H (by simp)
      ·rw [if_neg c61] at H
       have c61b0:(t263 == 0) = false:=beq_eq_false_iff_ne.mpr c61
       have c61b1:(t263 != 0) = true:=bne_iff_ne.mpr c61
       simp only [Option.some.injEq,Prod.mk.injEq] at H
       obtain ⟨rfl,rfl⟩:=H
       go_wp2_with (first|((with_reducible refine zU (f:=88) rfl ?_);refine goesL_ (some 67) rfl rfl Tryd.func88 (by kernel_rfl) rfl #[.slice A0 l0.length c0] rfl (by (try simp only [zx,zy,zz]);first|done|rfl|(simp only [zd,zt];rfl)) ?_;(with_reducible refine (foretellref_typed.calls k1 _ _ l0 t263 _ ?side1 ?side2 A60.out).mono ?_);(case side1=>repeat (first|exact (zT HR0.out HB.out)|(with_reducible refine Kd.C_alloc ?_ _)|(with_reducible refine Kd.C_drewN ?_ _)|(with_reducible refine Kd.C_drew ?_)));(case side2=>exact HC0.out);rintro e w65 ⟨rfl,hb⟩;refine ⟨_,rfl,?_⟩;have n0_:=zA (zH (by repeat (first|(with_reducible first|exact HB.out|apply zD|apply zC|apply zE)|exact HB.out)) hb);clear HB;have HB:=n0_;clear n0_;(try clear hb);(try clear hb2);(try clear hk);(try clear hi)))
       go_ret2
       exact ⟨by first|rfl|(simp [errW_none,errW_some] <;> rfl)|(simp [*,errW_none,errW_some] <;> rfl),by repeat (first|(with_reducible first|exact HB.out|apply zD|apply zC|apply zE)|exact HB.out)⟩
  ·rw [if_neg c6] at H
   have c6b0:(t255 == 0) = false:=beq_eq_false_iff_ne.mpr c6
   have c6b1:(t255 != 0) = true:=bne_iff_ne.mpr c6
   simp only [Option.some.injEq,Prod.mk.injEq] at H
   obtain ⟨rfl,rfl⟩:=H
   go_enter Tryd.func70,Tryd.ntmps70
   go_wp2_with (first|((with_reducible refine zU (f:=56) rfl ?_);refine goesL_ (some 11) rfl rfl Tryd.func56 (by kernel_rfl) rfl #[.int .i64 a1,.int .i64 0,.int .i64 6] rfl (by (try simp only [zx,zy,zz]);first|done|rfl|(simp only [zd,zt];rfl)) ?_;(with_reducible refine (foretellref_In.calls a1 0 6 true _ A3.out).mono ?_);rintro e w' ⟨rfl,⟨nd,rfl⟩⟩;refine ⟨_,rfl,?_⟩)|((with_reducible refine zU (f:=74) rfl ?_);refine goesL_ (some 15) rfl rfl Tryd.func74 (by kernel_rfl) rfl #[.slice A0 l0.length c0] rfl (by (try simp only [zx,zy,zz]);first|done|rfl|(simp only [zd,zt];rfl)) ?_;(with_reducible refine (foretellref_EndsOf.calls k _ _ l0 t254 t255 _ ?side1 ?side2 A5.out).mono ?_);(case side1=>repeat (first|exact HR0.out|(with_reducible refine Kd.C_alloc ?_ _)|(with_reducible refine Kd.C_drewN ?_ _)|(with_reducible refine Kd.C_drew ?_)));(case side2=>exact HC0.out);rintro e w66 ⟨v256,rfl,ho0,hb⟩;refine ⟨_,rfl,?_⟩;have n0_:=zA (Kd.R_lower ho0 (zG (by repeat (first|(with_reducible first|exact HB.out|apply zD|apply zC|apply zE)|exact HB.out))));have n1_:=zA (zH (by repeat (first|(with_reducible first|exact HB.out|apply zD|apply zC|apply zE)|exact HB.out)) hb);clear HB;have HO257:=n0_;have HB:=n1_;clear n0_ n1_;(try clear hb);(try clear hb2);(try clear hk);(try clear hi);(try clear ho0)))
   go_ret2
   exact ⟨by first|rfl|(simp [errW_none,errW_some] <;> rfl)|(simp [*,errW_none,errW_some] <;> rfl),by repeat (first|(with_reducible first|exact HB.out|apply zD|apply zC|apply zE)|exact HB.out)⟩
 ·replace c4:=Bool.eq_false_iff.mpr c4
  subst c4
  have H1:(some (false,2)) = some (r1,r2):=by rw [if_neg (show ¬ (false = true) by decide)] at H;exact H
  clear H
  have H:=H1
  clear H1
  simp only [Option.some.injEq,Prod.mk.injEq] at H
  obtain ⟨rfl,rfl⟩:=H
  go_enter Tryd.func70,Tryd.ntmps70
  go_wp2_with (first|((with_reducible refine zU (f:=56) rfl ?_);refine goesL_ (some 11) rfl rfl Tryd.func56 (by kernel_rfl) rfl #[.int .i64 a1,.int .i64 0,.int .i64 6] rfl (by (try simp only [zx,zy,zz]);first|done|rfl|(simp only [zd,zt];rfl)) ?_;(with_reducible refine (foretellref_In.calls a1 0 6 false _ A3.out).mono ?_);rintro e w' ⟨rfl,⟨nd,rfl⟩⟩;refine ⟨_,rfl,?_⟩))
  go_ret2
  exact ⟨by first|rfl|(simp [errW_none,errW_some] <;> rfl)|(simp [*,errW_none,errW_some] <;> rfl),by repeat (first|(with_reducible first|exact HB.out|apply zD|apply zC|apply zE)|exact HB.out)⟩
def foretellref_kindFault.f (k:Nat) (l0:List (S94)) (a1:Int) (a2:Bool):Option (Int):=(foretellref_ExprChecked.f k l0 a1).bind fun bt266=>(if bt266.2 = 0 then (if (bt266.1 != a2) = true then (some 5) else (some 0)) else (some bt266.2))
theorem foretellref_kindFault.mono:∀ a0 a1 a2 k,LeO (foretellref_kindFault.f k a0 a1 a2) (foretellref_kindFault.f (k + 1) a0 a1 a2):=by
 intro a0 a1 a2 k
 unfold foretellref_kindFault.f
 repeat' first
   | (with_reducible exact foretellref_ExprChecked.mono _ _ _)
   | (with_reducible exact LeO.refl _)
   | (with_reducible exact LeO.none _)
   | (with_reducible refine LeO.ite ?_ ?_)
   | (with_reducible refine LeO.bind ?_ (fun _=>?_))
   | exact foretellref_ExprChecked.mono _ _ _
   | exact LeO.none _
   | refine LeO.ite ?_ ?_
   | refine LeO.bind ?_ (fun _=>?_)
set_option maxHeartbeats 8000000 in
set_option maxRecDepth 100000 in
theorem foretellref_kindFault.calls (k:Nat) (A0:Option Addr) (c0:Nat) (l0:List (S94)) (a1:Int) (a2:Bool) (r:Int) (w:World) (hr0:Kd.C k94 w A0 l0.length l0) (hc0:l0.length ≤ c0) (h:foretellref_kindFault.f k l0 a1 a2 = some r) :
  Calls Tryd.prog 55 #[.slice A0 l0.length c0,.int .i64 a1,.bool a2] w fun e w'=>e = .returned (.int .i64 r)∧Below w.heap.size w w':=by
 have HR0:=zA hr0
 have HC0:=zA hc0
 clear hr0 hc0
 have HB:=zA (Below.refl w.heap.size w)
 have H:((foretellref_ExprChecked.f k l0 a1).bind fun bt266=>(if bt266.2 = 0 then (if (bt266.1 != a2) = true then (some 5) else (some 0)) else (some bt266.2))) = some r:=h
 clear h
 replace H:=zb.mp H
 obtain ⟨⟨t266,t267⟩,A40,H⟩:=H
 replace H:(if t267 = 0 then (if (t266 != a2) = true then (some 5) else (some 0)) else (some t267)) = some r:=H
 have A4:=zA A40
 clear A40
 by_cases c5:t267 = 0
 ·rw [if_pos c5] at H
  have c5b0:(t267 == 0) = true:=beq_iff_eq.mpr c5
  have c5b1:(t267 != 0) = false:=bne_eq_false_iff_eq.mpr c5
  clear c5
  by_cases c6:(t266 != a2) = true
  ·rw [if_pos c6] at H
   have c6b0:(t266 != a2) = true:=c6
   (try (have c6b1:decide (t266 = a2) = false:=by simpa using c6))
   (try (have c6b2:(t266 == a2) = false:=by simpa using c6))
   (try (have c6b3:¬ (t266 = a2):=by simpa using c6))
   clear c6
   obtain rfl:=Option.some.inj H
   go_enter Tryd.func55,Tryd.ntmps55
   go_wp2_with (first|((with_reducible refine zU (f:=70) rfl ?_);refine goesL_ (some 12) rfl rfl Tryd.func70 (by kernel_rfl) rfl #[.slice A0 l0.length c0,.int .i64 a1] rfl (by (try simp only [zx,zy,zz]);first|done|rfl|(simp only [zd,zt];rfl)) ?_;(with_reducible refine (foretellref_ExprChecked.calls k _ _ l0 a1 t266 t267 _ ?side1 ?side2 A4.out).mono ?_);(case side1=>repeat (first|exact HR0.out|(with_reducible refine Kd.C_alloc ?_ _)|(with_reducible refine Kd.C_drewN ?_ _)|(with_reducible refine Kd.C_drew ?_)));(case side2=>exact HC0.out);rintro e w7 ⟨rfl,hb⟩;refine ⟨_,rfl,?_⟩;have n0_:=zA (zH (by repeat (first|(with_reducible first|exact HB.out|apply zD|apply zC|apply zE)|exact HB.out)) hb);clear HB;have HB:=n0_;clear n0_;(try clear hb);(try clear hb2);(try clear hk);(try clear hi)))
   go_ret
   exact ⟨by first|rfl|(simp [errW_none,errW_some] <;> rfl)|(simp [*,errW_none,errW_some] <;> rfl),by repeat (first|(with_reducible first|exact HB.out|apply zD|apply zC|apply zE)|exact HB.out)⟩
  ·rw [if_neg c6] at H
   have c6b0:(t266 != a2) = false:=by simpa using c6
   (try (have c6b1:decide (t266 = a2) = true:=by simpa using c6))
   (try (have c6b2:(t266 == a2) = true:=by simpa using c6))
   clear c6
   obtain rfl:=Option.some.inj H
   go_enter Tryd.func55,Tryd.ntmps55
   go_wp2_with (first|((with_reducible refine zU (f:=70) rfl ?_);refine goesL_ (some 12) rfl rfl Tryd.func70 (by kernel_rfl) rfl #[.slice A0 l0.length c0,.int .i64 a1] rfl (by (try simp only [zx,zy,zz]);first|done|rfl|(simp only [zd,zt];rfl)) ?_;(with_reducible refine (foretellref_ExprChecked.calls k _ _ l0 a1 t266 t267 _ ?side1 ?side2 A4.out).mono ?_);(case side1=>repeat (first|exact HR0.out|(with_reducible refine Kd.C_alloc ?_ _)|(with_reducible refine Kd.C_drewN ?_ _)|(with_reducible refine Kd.C_drew ?_)));(case side2=>exact HC0.out);rintro e w8 ⟨rfl,hb⟩;refine ⟨_,rfl,?_⟩;have n0_:=zA (zH (by repeat (first|(with_reducible first|exact HB.out|apply zD|apply zC|apply zE)|exact HB.out)) hb);clear HB;have HB:=n0_;clear n0_;(try clear hb);(try clear hb2);(try clear hk);(try clear hi)))
   go_ret
   exact ⟨by first|rfl|(simp [errW_none,errW_some] <;> rfl)|(simp [*,errW_none,errW_some] <;> rfl),by repeat (first|(with_reducible first|exact HB.out|apply zD|apply zC|apply zE)|exact HB.out)⟩
 ·rw [if_neg c5] at H
  have c5b0:(t267 == 0) = false:=beq_eq_false_iff_ne.mpr c5
  have c5b1:(t267 != 0) = true:=bne_iff_ne.mpr c5
  obtain rfl:=Option.some.inj H
  go_enter Tryd.func55,Tryd.ntmps55
  go_wp2_with (first|((with_reducible refine zU (f:=70) rfl ?_);refine goesL_ (some 12) rfl rfl Tryd.func70 (by kernel_rfl) rfl #[.slice A0 l0.length c0,.int .i64 a1] rfl (by (try simp only [zx,zy,zz]);first|done|rfl|(simp only [zd,zt];rfl)) ?_;(with_reducible refine (foretellref_ExprChecked.calls k _ _ l0 a1 t266 t267 _ ?side1 ?side2 A4.out).mono ?_);(case side1=>repeat (first|exact HR0.out|(with_reducible refine Kd.C_alloc ?_ _)|(with_reducible refine Kd.C_drewN ?_ _)|(with_reducible refine Kd.C_drew ?_)));(case side2=>exact HC0.out);rintro e w9 ⟨rfl,hb⟩;refine ⟨_,rfl,?_⟩;have n0_:=zA (zH (by repeat (first|(with_reducible first|exact HB.out|apply zD|apply zC|apply zE)|exact HB.out)) hb);clear HB;have HB:=n0_;clear n0_;(try clear hb);(try clear hb2);(try clear hk);(try clear hi)))
  go_ret
  exact ⟨by first|rfl|(simp [errW_none,errW_some] <;> rfl)|(simp [*,errW_none,errW_some] <;> rfl),by repeat (first|(with_reducible first|exact HB.out|apply zD|apply zC|apply zE)|exact HB.out)⟩
mutual
def foretellref_ruleFault.l0:Nat → Int → Int → Int → List (S94) → List (S70) → Option (Int)
 | 0,_,_,_,_,_=>none
 | k + 1,x1,x5,x6,x269000,x269001=>if x6 < (x269001.length:Int) then (foretellref_ruleFault.j1 k x1 x5 x6 (x5 == 0) x269000 x269001) else (foretellref_ruleFault.j1 k x1 x5 x6 false x269000 x269001)
def foretellref_ruleFault.j1:Nat → Int → Int → Int → Bool → List (S94) → List (S70) → Option (Int)
 | 0,_,_,_,_,_,_=>none
 | k + 1,x1,x5,x6,x25,x269000,x269001=>if x25 = true then (if 0 ≤ x6 then (if x6 < (x269001.length:Int) then ((foretellref_In.f ((rd_T70 x269001 x6).f0) 0 (wrap64 (x1 - 1))).bind fun t272=>(if t272 = true then (foretellref_ruleFault.l1 k x1 x6 0 x269000 x269001 ((rd_T70 x269001 x6).f0) ((rd_T70 x269001 x6).f1)) else (some 2))) else (none)) else (none)) else (some x5)
def foretellref_ruleFault.l1:Nat → Int → Int → Int → List (S94) → List (S70) → Int → List (S94) → Option (Int)
 | 0,_,_,_,_,_,_,_=>none
 | k + 1,x1,x6,x8,x269000,x269001,x272000,x272001=>if x8 < x6 then (if 0 ≤ x8 then (if x8 < (x269001.length:Int) then (if ((rd_T70 x269001 x8).f0) = x272000 then (some 7) else (foretellref_ruleFault.l1 k x1 x6 (wrap64 (x8 + 1)) x269000 x269001 x272000 x272001)) else (none)) else (none)) else ((foretellref_kindFault.f k x272001 x1 false).bind fun t274=>(foretellref_ruleFault.l0 k x1 t274 (wrap64 (x6 + 1)) x269000 x269001))
end
def foretellref_ruleFault.f (k:Nat) (l0_0:List (S94)) (l0_1:List (S70)) (a1:Int):Option (Int):=if (l0_1.length:Int) > 6 then (some 1) else ((foretellref_kindFault.f k l0_0 a1 true).bind fun t269=>(foretellref_ruleFault.l0 k a1 t269 0 l0_0 l0_1))
theorem foretellref_ruleFault.mono_l:∀ k,(∀ y0 y1 y2 y3 y4,LeO (foretellref_ruleFault.l0 k y0 y1 y2 y3 y4) (foretellref_ruleFault.l0 (k + 1) y0 y1 y2 y3 y4))∧(∀ y0 y1 y2 y3 y4 y5,LeO (foretellref_ruleFault.j1 k y0 y1 y2 y3 y4 y5) (foretellref_ruleFault.j1 (k + 1) y0 y1 y2 y3 y4 y5))∧(∀ y0 y1 y2 y3 y4 y5 y6,LeO (foretellref_ruleFault.l1 k y0 y1 y2 y3 y4 y5 y6) (foretellref_ruleFault.l1 (k + 1) y0 y1 y2 y3 y4 y5 y6))
 | 0=>⟨fun _ _ _ _ _ r h=>by simp [foretellref_ruleFault.l0] at h,fun _ _ _ _ _ _ r h=>by simp [foretellref_ruleFault.j1] at h,fun _ _ _ _ _ _ _ r h=>by simp [foretellref_ruleFault.l1] at h⟩
 | k + 1=>by
  obtain ⟨ih0,ih1,ih2⟩:=foretellref_ruleFault.mono_l k
  refine ⟨?_,?_,?_⟩
  ·intro y0 y1 y2 y3 y4
   unfold foretellref_ruleFault.l0
   repeat' first
   | (with_reducible exact ih0 _ _ _ _ _)
   | (with_reducible exact ih1 _ _ _ _ _ _)
   | (with_reducible exact ih2 _ _ _ _ _ _ _)
   | (with_reducible exact foretellref_kindFault.mono _ _ _ _)
   | (with_reducible exact LeO.refl _)
   | (with_reducible exact LeO.none _)
   | (with_reducible refine LeO.ite ?_ ?_)
   | (with_reducible refine LeO.bind ?_ (fun _=>?_))
   | exact ih0 _ _ _ _ _
   | exact ih1 _ _ _ _ _ _
   | exact ih2 _ _ _ _ _ _ _
   | exact foretellref_kindFault.mono _ _ _ _
   | exact LeO.none _
   | refine LeO.ite ?_ ?_
   | refine LeO.bind ?_ (fun _=>?_)
  ·intro y0 y1 y2 y3 y4 y5
   unfold foretellref_ruleFault.j1
   repeat' first
   | (with_reducible exact ih0 _ _ _ _ _)
   | (with_reducible exact ih1 _ _ _ _ _ _)
   | (with_reducible exact ih2 _ _ _ _ _ _ _)
   | (with_reducible exact foretellref_kindFault.mono _ _ _ _)
   | (with_reducible exact LeO.refl _)
   | (with_reducible exact LeO.none _)
   | (with_reducible refine LeO.ite ?_ ?_)
   | (with_reducible refine LeO.bind ?_ (fun _=>?_))
   | exact ih0 _ _ _ _ _
   | exact ih1 _ _ _ _ _ _
   | exact ih2 _ _ _ _ _ _ _
   | exact foretellref_kindFault.mono _ _ _ _
   | exact LeO.none _
   | refine LeO.ite ?_ ?_
   | refine LeO.bind ?_ (fun _=>?_)
  ·intro y0 y1 y2 y3 y4 y5 y6
   unfold foretellref_ruleFault.l1
   repeat' first
   | (with_reducible exact ih0 _ _ _ _ _)
   | (with_reducible exact ih1 _ _ _ _ _ _)
   | (with_reducible exact ih2 _ _ _ _ _ _ _)
   | (with_reducible exact foretellref_kindFault.mono _ _ _ _)
   | (with_reducible exact LeO.refl _)
   | (with_reducible exact LeO.none _)
   | (with_reducible refine LeO.ite ?_ ?_)
   | (with_reducible refine LeO.bind ?_ (fun _=>?_))
   | exact ih0 _ _ _ _ _
   | exact ih1 _ _ _ _ _ _
   | exact ih2 _ _ _ _ _ _ _
   | exact foretellref_kindFault.mono _ _ _ _
   | exact LeO.none _
   | refine LeO.ite ?_ ?_
   | refine LeO.bind ?_ (fun _=>?_)
theorem foretellref_ruleFault.mono:∀ a0 a1 a2 k,LeO (foretellref_ruleFault.f k a0 a1 a2) (foretellref_ruleFault.f (k + 1) a0 a1 a2):=by
 intro a0 a1 a2 k
 obtain ⟨ih0,ih1,ih2⟩:=foretellref_ruleFault.mono_l k
 unfold foretellref_ruleFault.f
 repeat' first
   | (with_reducible exact ih0 _ _ _ _ _)
   | (with_reducible exact ih1 _ _ _ _ _ _)
   | (with_reducible exact ih2 _ _ _ _ _ _ _)
   | (with_reducible exact foretellref_kindFault.mono _ _ _ _)
   | (with_reducible exact LeO.refl _)
   | (with_reducible exact LeO.none _)
   | (with_reducible refine LeO.ite ?_ ?_)
   | (with_reducible refine LeO.bind ?_ (fun _=>?_))
   | exact ih0 _ _ _ _ _
   | exact ih1 _ _ _ _ _ _
   | exact ih2 _ _ _ _ _ _ _
   | exact foretellref_kindFault.mono _ _ _ _
   | exact LeO.none _
   | refine LeO.ite ?_ ?_
   | refine LeO.bind ?_ (fun _=>?_)
set_option maxHeartbeats 8000000 in
set_option maxRecDepth 100000 in
theorem foretellref_ruleFault.calls (k:Nat) (A0_0:Option Addr) (c0_0:Nat) (l0_0:List (S94)) (A0_1:Option Addr) (c0_1:Nat) (l0_1:List (S70)) (a1:Int) (r:Int) (w:World) (hr0_0:Kd.C k94 w A0_0 l0_0.length l0_0) (hc0_0:l0_0.length ≤ c0_0) (hr0_1:Kd.C k70 w A0_1 l0_1.length l0_1) (hc0_1:l0_1.length ≤ c0_1) (h:foretellref_ruleFault.f k l0_0 l0_1 a1 = some r) :
  Calls Tryd.prog 51 #[.agg #[.slice A0_0 l0_0.length c0_0,.slice A0_1 l0_1.length c0_1],.int .i64 a1] w fun e w'=>e = .returned (.int .i64 r)∧Below w.heap.size w w':=by
 have hu68:=Tryd.underlying68
 have hu70:=Tryd.underlying70
 have HR0_0:=zA hr0_0
 have HC0_0:=zA hc0_0
 clear hr0_0 hc0_0
 have HR0_1:=zA hr0_1
 have HC0_1:=zA hc0_1
 clear hr0_1 hc0_1
 have HB:=zA (Below.refl w.heap.size w)
 have H:(if (l0_1.length:Int) > 6 then (some 1) else ((foretellref_kindFault.f k l0_0 a1 true).bind fun t269=>(foretellref_ruleFault.l0 k a1 t269 0 l0_0 l0_1))) = some r:=h
 clear h
 by_cases c3:(l0_1.length:Int) > 6
 ·rw [if_pos c3] at H
  have c3b0:decide (6 < (l0_1.length:Int)) = true:=zQ c3
  have c3b1:decide (6 < l0_1.length) = true:=zQ (by omega)
  clear c3
  obtain rfl:=Option.some.inj H
  go_enter Tryd.func51,Tryd.ntmps51
  go_wp2_with (first|((with_reducible refine zV (N:=2) rfl ?_);refine zW ?hg (N:=2) ?hd (cs:=#[.slice A0_0 l0_0.length c0_0,.slice A0_1 l0_1.length c0_1]) (t:=68) ?hr ?_;(case hd=>rfl);(case hg=>rfl);(case hr=>first|(go_simp;done)|(go_simp;rfl));intro gb268 hg w4 hbox hb;have n0_:=zA (zH (by repeat (first|(with_reducible first|exact HB.out|apply zD|apply zC|apply zE)|exact HB.out)) hb);have n1_:=zA (hbox);have n2_:=zA ((by rw [hg];exact (zG (by repeat (first|(with_reducible first|exact HB.out|apply zD|apply zC|apply zE)|exact HB.out))):w.heap.size ≤ gb268));have n3_:=zA ((by rw [hg];exact (zG (by repeat (first|(with_reducible first|exact HB.out|apply zD|apply zC|apply zE)|exact HB.out))):w.heap.size ≤ gb268));clear HB;have HB:=n0_;have BK268:=n1_;have GW268:=n2_;have GE268:=n3_;clear n0_ n1_ n2_ n3_;clear hb hbox hg;have hcz5_0:w4.cell? ⟨gb268,0,none⟩ = some (.slice A0_0 l0_0.length c0_0):=(zI BK268.out 0).trans rfl;have hcz5_1:w4.cell? ⟨gb268,1,none⟩ = some (.slice A0_1 l0_1.length c0_1):=(zI BK268.out 1).trans rfl;have hfz5_0:=zJ BK268.out 0;have hfz5_1:=zJ BK268.out 1))
  repeat (go_quiet (first|((with_reducible refine zV (N:=2) rfl ?_);refine zW ?hg (N:=2) ?hd (cs:=#[.slice A0_0 l0_0.length c0_0,.slice A0_1 l0_1.length c0_1]) (t:=68) ?hr ?_;(case hd=>rfl);(case hg=>rfl);(case hr=>first|(go_simp;done)|(go_simp;rfl));intro gb268 hg w4 hbox hb;have n0_:=zA (zH (by repeat (first|(with_reducible first|exact HB.out|apply zD|apply zC|apply zE)|exact HB.out)) hb);have n1_:=zA (hbox);have n2_:=zA ((by rw [hg];exact (zG (by repeat (first|(with_reducible first|exact HB.out|apply zD|apply zC|apply zE)|exact HB.out))):w.heap.size ≤ gb268));have n3_:=zA ((by rw [hg];exact (zG (by repeat (first|(with_reducible first|exact HB.out|apply zD|apply zC|apply zE)|exact HB.out))):w.heap.size ≤ gb268));clear HB;have HB:=n0_;have BK268:=n1_;have GW268:=n2_;have GE268:=n3_;clear n0_ n1_ n2_ n3_;clear hb hbox hg;have hcz5_0:w4.cell? ⟨gb268,0,none⟩ = some (.slice A0_0 l0_0.length c0_0):=(zI BK268.out 0).trans rfl;have hcz5_1:w4.cell? ⟨gb268,1,none⟩ = some (.slice A0_1 l0_1.length c0_1):=(zI BK268.out 1).trans rfl;have hfz5_0:=zJ BK268.out 0;have hfz5_1:=zJ BK268.out 1));try go_wp2_with (first|((with_reducible refine zV (N:=2) rfl ?_);refine zW ?hg (N:=2) ?hd (cs:=#[.slice A0_0 l0_0.length c0_0,.slice A0_1 l0_1.length c0_1]) (t:=68) ?hr ?_;(case hd=>rfl);(case hg=>rfl);(case hr=>first|(go_simp;done)|(go_simp;rfl));intro gb268 hg w4 hbox hb;have n0_:=zA (zH (by repeat (first|(with_reducible first|exact HB.out|apply zD|apply zC|apply zE)|exact HB.out)) hb);have n1_:=zA (hbox);have n2_:=zA ((by rw [hg];exact (zG (by repeat (first|(with_reducible first|exact HB.out|apply zD|apply zC|apply zE)|exact HB.out))):w.heap.size ≤ gb268));have n3_:=zA ((by rw [hg];exact (zG (by repeat (first|(with_reducible first|exact HB.out|apply zD|apply zC|apply zE)|exact HB.out))):w.heap.size ≤ gb268));clear HB;have HB:=n0_;have BK268:=n1_;have GW268:=n2_;have GE268:=n3_;clear n0_ n1_ n2_ n3_;clear hb hbox hg;have hcz5_0:w4.cell? ⟨gb268,0,none⟩ = some (.slice A0_0 l0_0.length c0_0):=(zI BK268.out 0).trans rfl;have hcz5_1:w4.cell? ⟨gb268,1,none⟩ = some (.slice A0_1 l0_1.length c0_1):=(zI BK268.out 1).trans rfl;have hfz5_0:=zJ BK268.out 0;have hfz5_1:=zJ BK268.out 1)))
  go_ret
  exact ⟨by first|rfl|(simp [errW_none,errW_some] <;> rfl)|(simp [*,errW_none,errW_some] <;> rfl),by repeat (first|(with_reducible first|exact HB.out|apply zD|apply zC|apply zE|refine zF ?_ GE268.out)|exact HB.out)⟩
 ·rw [if_neg c3] at H
  have c3b0:decide (6 < (l0_1.length:Int)) = false:=zR c3
  have c3b1:decide (6 < l0_1.length) = false:=zR (by omega)
  clear c3
  replace H:=zb.mp H
  obtain ⟨t269,A60,H⟩:=H
  replace H:(foretellref_ruleFault.l0 k a1 t269 0 l0_0 l0_1) = some r:=H
  have A6:=zA A60
  clear A60
  have H':=zA H
  clear H
  go_enter Tryd.func51,Tryd.ntmps51
  go_wp2_with (first|((with_reducible refine zV (N:=2) rfl ?_);refine zW ?hg (N:=2) ?hd (cs:=#[.slice A0_0 l0_0.length c0_0,.slice A0_1 l0_1.length c0_1]) (t:=68) ?hr ?_;(case hd=>rfl);(case hg=>rfl);(case hr=>first|(go_simp;done)|(go_simp;rfl));intro gb268 hg w7 hbox hb;have n0_:=zA (zH (by repeat (first|(with_reducible first|exact HB.out|apply zD|apply zC|apply zE)|exact HB.out)) hb);have n1_:=zA (hbox);have n2_:=zA ((by rw [hg];exact (zG (by repeat (first|(with_reducible first|exact HB.out|apply zD|apply zC|apply zE)|exact HB.out))):w.heap.size ≤ gb268));have n3_:=zA ((by rw [hg];exact (zG (by repeat (first|(with_reducible first|exact HB.out|apply zD|apply zC|apply zE)|exact HB.out))):w.heap.size ≤ gb268));clear HB;have HB:=n0_;have BK268:=n1_;have GW268:=n2_;have GE268:=n3_;clear n0_ n1_ n2_ n3_;clear hb hbox hg;have hcz8_0:w7.cell? ⟨gb268,0,none⟩ = some (.slice A0_0 l0_0.length c0_0):=(zI BK268.out 0).trans rfl;have hcz8_1:w7.cell? ⟨gb268,1,none⟩ = some (.slice A0_1 l0_1.length c0_1):=(zI BK268.out 1).trans rfl;have hfz8_0:=zJ BK268.out 0;have hfz8_1:=zJ BK268.out 1)|(go_at_call 55;(with_reducible refine (foretellref_kindFault.calls k _ _ l0_0 a1 true t269 _ ?side1 ?side2 A6.out).mono ?_);(case side1=>repeat (first|exact (zT HR0_0.out HB.out)|(with_reducible refine Kd.C_alloc ?_ _)|(with_reducible refine Kd.C_drewN ?_ _)|(with_reducible refine Kd.C_drew ?_)));(case side2=>exact HC0_0.out);rintro e w9 ⟨rfl,hb⟩;have n0_:=zA (zN (g:=gb268) (o:=.cells #[.slice A0_0 l0_0.length c0_0,.slice A0_1 l0_1.length c0_1] 68 (0,0)) (by (with_reducible repeat (first|refine zL ?_ _|refine zM ?_|refine zK ?_ _));exact BK268.out) hb);have n1_:=zA (zH (by repeat (first|(with_reducible first|exact HB.out|apply zD|apply zC|apply zE|refine zF ?_ GE268.out)|exact HB.out)) hb);clear BK268;clear HB;have BK268:=n0_;have HB:=n1_;clear n0_ n1_;(try clear hb);(try clear hb2);(try clear hk);(try clear hi)))
  repeat (go_quiet (first|((with_reducible refine zV (N:=2) rfl ?_);refine zW ?hg (N:=2) ?hd (cs:=#[.slice A0_0 l0_0.length c0_0,.slice A0_1 l0_1.length c0_1]) (t:=68) ?hr ?_;(case hd=>rfl);(case hg=>rfl);(case hr=>first|(go_simp;done)|(go_simp;rfl));intro gb268 hg w7 hbox hb;have n0_:=zA (zH (by repeat (first|(with_reducible first|exact HB.out|apply zD|apply zC|apply zE)|exact HB.out)) hb);have n1_:=zA (hbox);have n2_:=zA ((by rw [hg];exact (zG (by repeat (first|(with_reducible first|exact HB.out|apply zD|apply zC|apply zE)|exact HB.out))):w.heap.size ≤ gb268));have n3_:=zA ((by rw [hg];exact (zG (by repeat (first|(with_reducible first|exact HB.out|apply zD|apply zC|apply zE)|exact HB.out))):w.heap.size ≤ gb268));clear HB;have HB:=n0_;have BK268:=n1_;have GW268:=n2_;have GE268:=n3_;clear n0_ n1_ n2_ n3_;clear hb hbox hg;have hcz8_0:w7.cell? ⟨gb268,0,none⟩ = some (.slice A0_0 l0_0.length c0_0):=(zI BK268.out 0).trans rfl;have hcz8_1:w7.cell? ⟨gb268,1,none⟩ = some (.slice A0_1 l0_1.length c0_1):=(zI BK268.out 1).trans rfl;have hfz8_0:=zJ BK268.out 0;have hfz8_1:=zJ BK268.out 1)|(go_at_call 55;(with_reducible refine (foretellref_kindFault.calls k _ _ l0_0 a1 true t269 _ ?side1 ?side2 A6.out).mono ?_);(case side1=>repeat (first|exact (zT HR0_0.out HB.out)|(with_reducible refine Kd.C_alloc ?_ _)|(with_reducible refine Kd.C_drewN ?_ _)|(with_reducible refine Kd.C_drew ?_)));(case side2=>exact HC0_0.out);rintro e w9 ⟨rfl,hb⟩;have n0_:=zA (zN (g:=gb268) (o:=.cells #[.slice A0_0 l0_0.length c0_0,.slice A0_1 l0_1.length c0_1] 68 (0,0)) (by (with_reducible repeat (first|refine zL ?_ _|refine zM ?_|refine zK ?_ _));exact BK268.out) hb);have n1_:=zA (zH (by repeat (first|(with_reducible first|exact HB.out|apply zD|apply zC|apply zE|refine zF ?_ GE268.out)|exact HB.out)) hb);clear BK268;clear HB;have BK268:=n0_;have HB:=n1_;clear n0_ n1_;(try clear hb);(try clear hb2);(try clear hk);(try clear hi)));try go_wp2_with (first|((with_reducible refine zV (N:=2) rfl ?_);refine zW ?hg (N:=2) ?hd (cs:=#[.slice A0_0 l0_0.length c0_0,.slice A0_1 l0_1.length c0_1]) (t:=68) ?hr ?_;(case hd=>rfl);(case hg=>rfl);(case hr=>first|(go_simp;done)|(go_simp;rfl));intro gb268 hg w7 hbox hb;have n0_:=zA (zH (by repeat (first|(with_reducible first|exact HB.out|apply zD|apply zC|apply zE)|exact HB.out)) hb);have n1_:=zA (hbox);have n2_:=zA ((by rw [hg];exact (zG (by repeat (first|(with_reducible first|exact HB.out|apply zD|apply zC|apply zE)|exact HB.out))):w.heap.size ≤ gb268));have n3_:=zA ((by rw [hg];exact (zG (by repeat (first|(with_reducible first|exact HB.out|apply zD|apply zC|apply zE)|exact HB.out))):w.heap.size ≤ gb268));clear HB;have HB:=n0_;have BK268:=n1_;have GW268:=n2_;have GE268:=n3_;clear n0_ n1_ n2_ n3_;clear hb hbox hg;have hcz8_0:w7.cell? ⟨gb268,0,none⟩ = some (.slice A0_0 l0_0.length c0_0):=(zI BK268.out 0).trans rfl;have hcz8_1:w7.cell? ⟨gb268,1,none⟩ = some (.slice A0_1 l0_1.length c0_1):=(zI BK268.out 1).trans rfl;have hfz8_0:=zJ BK268.out 0;have hfz8_1:=zJ BK268.out 1)|(go_at_call 55;(with_reducible refine (foretellref_kindFault.calls k _ _ l0_0 a1 true t269 _ ?side1 ?side2 A6.out).mono ?_);(case side1=>repeat (first|exact (zT HR0_0.out HB.out)|(with_reducible refine Kd.C_alloc ?_ _)|(with_reducible refine Kd.C_drewN ?_ _)|(with_reducible refine Kd.C_drew ?_)));(case side2=>exact HC0_0.out);rintro e w9 ⟨rfl,hb⟩;have n0_:=zA (zN (g:=gb268) (o:=.cells #[.slice A0_0 l0_0.length c0_0,.slice A0_1 l0_1.length c0_1] 68 (0,0)) (by (with_reducible repeat (first|refine zL ?_ _|refine zM ?_|refine zK ?_ _));exact BK268.out) hb);have n1_:=zA (zH (by repeat (first|(with_reducible first|exact HB.out|apply zD|apply zC|apply zE|refine zF ?_ GE268.out)|exact HB.out)) hb);clear BK268;clear HB;have BK268:=n0_;have HB:=n1_;clear n0_ n1_;(try clear hb);(try clear hb2);(try clear hk);(try clear hi))))
  go_loopg [5,6] k (fun kq v5 v6 w'=>∃ (x5_1:Int) (x6_1:Int),v5 = .int .i64 x5_1∧v6 = .int .i64 x6_1∧Aside0 (foretellref_ruleFault.l0 kq a1 x5_1 x6_1 l0_0 l0_1 = some r)∧Aside0 (kq ≤ k)∧Aside0 (w'.heap[gb268]? = some (.cells #[(.slice A0_0 l0_0.length c0_0),(.slice A0_1 l0_1.length c0_1)] 68 (0,0)))∧Aside0 (Below w.heap.size w w'))
  case atStart=>exact ⟨(t269),(0),(by first|rfl|(simp;done)|(simp [*];done)),(by first|rfl|(simp;done)|(simp [*];done)),H',⟨Nat.le_refl _⟩,⟨by (with_reducible repeat (first|refine zL ?_ _|refine zM ?_|refine zK ?_ _));exact BK268.out⟩,⟨by repeat (first|(with_reducible first|exact HB.out|apply zD|apply zC|apply zE|refine zF ?_ GE268.out)|exact HB.out)⟩⟩
  case round =>
   clear H'
   try clear p2
   try clear c3
   try clear c3b0
   try clear c3b1
   try clear c5
   try clear hcz5_0
   try clear hcz5_1
   try clear hcz8_0
   try clear hcz8_1
   try clear hfz5_0
   try clear hfz5_1
   try clear hfz8_0
   try clear hfz8_1
   obtain ⟨x5_1,x6_1,rfl,rfl,HA,HK1,BK268,HB⟩:=hrel
   cases gk with
   | zero=>exact absurd HA.out (by simp [foretellref_ruleFault.l0])
   | succ k1 =>
    have H:=HA.out
    clear HA
    simp only [foretellref_ruleFault.l0] at H
    have HC10:=zA H
    clear H
    go_upto_region 5 with (fail)
    repeat (go_quiet (fail);go_upto_region 5 with (fail))
    go_cut [25] (fun v25 wc=>∃ (kq:Nat) (x25_9:Bool),v25 = .bool x25_9∧Aside0 (foretellref_ruleFault.j1 kq a1 x5_1 x6_1 x25_9 l0_0 l0_1 = some r)∧Aside0 (kq ≤ k1)∧Aside0 (wc.heap[gb268]? = some (.cells #[(.slice A0_0 l0_0.length c0_0),(.slice A0_1 l0_1.length c0_1)] 68 (0,0)))∧Aside0 (Below w.heap.size w wc))
    case first =>
     have H:=HC10.out
     clear HC10
     by_cases c11:x6_1 < (l0_1.length:Int)
     ·rw [if_pos c11] at H
      have c11b0:decide (x6_1 < (l0_1.length:Int)) = true:=zQ c11
      clear c11
      (first|rw [c11b0]|(simp only [i64_w,i32_w];rw [c11b0])|skip)
      have H':=zA H
      clear H
      have hcz12_0:wr.cell? ⟨gb268,0,none⟩ = some (.slice A0_0 l0_0.length c0_0):=(zI BK268.out 0).trans rfl
      have hcz12_1:wr.cell? ⟨gb268,1,none⟩ = some (.slice A0_1 l0_1.length c0_1):=(zI BK268.out 1).trans rfl
      have hfz12_0:=zJ BK268.out 0
      have hfz12_1:=zJ BK268.out 1
      go_wp2
      repeat (go_quiet (fail);try go_wp2)
      go_meet
      case rel=>exact ⟨_,((x5_1 == 0)),(by first|rfl|(simp;done)|(simp [*];done)),H',⟨by have:=HK1.out;first|omega|exact Nat.le_refl _⟩,⟨by (with_reducible repeat (first|refine zL ?_ _|refine zM ?_|refine zK ?_ _));exact BK268.out⟩,⟨by repeat (first|(with_reducible first|exact HB.out|apply zD|apply zC|apply zE|refine zF ?_ GE268.out)|exact HB.out)⟩⟩
     ·rw [if_neg c11] at H
      have c11b0:decide (x6_1 < (l0_1.length:Int)) = false:=zR c11
      clear c11
      (first|rw [c11b0]|(simp only [i64_w,i32_w];rw [c11b0])|skip)
      have H':=zA H
      clear H
      have hcz13_0:wr.cell? ⟨gb268,0,none⟩ = some (.slice A0_0 l0_0.length c0_0):=(zI BK268.out 0).trans rfl
      have hcz13_1:wr.cell? ⟨gb268,1,none⟩ = some (.slice A0_1 l0_1.length c0_1):=(zI BK268.out 1).trans rfl
      have hfz13_0:=zJ BK268.out 0
      have hfz13_1:=zJ BK268.out 1
      go_wp2
      repeat (go_quiet (fail);try go_wp2)
      go_meet
      case rel=>exact ⟨_,(false),(by first|rfl|(simp;done)|(simp [*];done)),H',⟨by have:=HK1.out;first|omega|exact Nat.le_refl _⟩,⟨by (with_reducible repeat (first|refine zL ?_ _|refine zM ?_|refine zK ?_ _));exact BK268.out⟩,⟨by repeat (first|(with_reducible first|exact HB.out|apply zD|apply zC|apply zE|refine zF ?_ GE268.out)|exact HB.out)⟩⟩
    case rest =>
     clear HC10
     try clear c1
     try clear p2
     try clear c3
     try clear c3b0
     try clear c3b1
     try clear c5
     try clear c11
     try clear c11b0
     try clear hcz12_0
     try clear hcz12_1
     try clear hcz13_0
     try clear hcz13_1
     try clear hcz5_0
     try clear hcz5_1
     try clear hcz8_0
     try clear hcz8_1
     try clear hfz12_0
     try clear hfz12_1
     try clear hfz13_0
     try clear hfz13_1
     try clear hfz5_0
     try clear hfz5_1
     try clear hfz8_0
     try clear hfz8_1
     try clear p2
     obtain ⟨kq,x25_9,rfl,HA,HJ9,BK268,HB⟩:=hcut
     cases kq with
     | zero=>exact absurd HA.out (by simp [foretellref_ruleFault.j1])
     | succ kj9 =>
      have H:=HA.out
      clear HA
      simp only [foretellref_ruleFault.j1] at H
      by_cases c14:x25_9 = true
      ·subst c14
       have H1:(if 0 ≤ x6_1 then (if x6_1 < (l0_1.length:Int) then ((foretellref_In.f ((rd_T70 l0_1 x6_1).f0) 0 (wrap64 (a1 - 1))).bind fun t272=>(if t272 = true then (foretellref_ruleFault.l1 kj9 a1 x6_1 0 l0_0 l0_1 ((rd_T70 l0_1 x6_1).f0) ((rd_T70 l0_1 x6_1).f1)) else (some 2))) else (none)) else (none)) = some r:=by rw [if_pos rfl] at H;exact H
       clear H
       have H:=H1
       clear H1
       by_cases c15:0 ≤ x6_1
       ·rw [if_pos c15] at H
        have c15b0:decide (0 ≤ x6_1) = true:=zQ c15
        clear c15
        by_cases c16:x6_1 < (l0_1.length:Int)
        ·rw [if_pos c16] at H
         have c16b0:decide (x6_1 < (l0_1.length:Int)) = true:=zQ c16
         clear c16
         replace H:=zb.mp H
         obtain ⟨t272,A170,H⟩:=H
         replace H:(if t272 = true then (foretellref_ruleFault.l1 kj9 a1 x6_1 0 l0_0 l0_1 ((rd_T70 l0_1 x6_1).f0) ((rd_T70 l0_1 x6_1).f1)) else (some 2)) = some r:=H
         have A17:=zA A170
         clear A170
         by_cases c18:t272 = true
         ·subst c18
          have H1:(foretellref_ruleFault.l1 kj9 a1 x6_1 0 l0_0 l0_1 ((rd_T70 l0_1 x6_1).f0) ((rd_T70 l0_1 x6_1).f1)) = some r:=by rw [if_pos rfl] at H;exact H
          clear H
          have H:=H1
          clear H1
          have H':=zA H
          clear H
          have hcz19_0:wc.cell? ⟨gb268,0,none⟩ = some (.slice A0_0 l0_0.length c0_0):=(zI BK268.out 0).trans rfl
          have hcz19_1:wc.cell? ⟨gb268,1,none⟩ = some (.slice A0_1 l0_1.length c0_1):=(zI BK268.out 1).trans rfl
          have hfz19_0:=zJ BK268.out 0
          have hfz19_1:=zJ BK268.out 1
          have p270:0 ≤ (x6_1:Int):=zP (by assumption)
          have q270:x6_1 < (l0_1.length:Int):=zP (by assumption)
          obtain ⟨ad270,A270_1,c270_1,e270,hx270_0,hx270_1,hl270_1,hi270_1⟩:=at_T70 HR0_1.out x6_1 p270 q270
          cases e270
          replace hx270_0:=(HB.out.cell (zB w _ hx270_0)).trans hx270_0
          replace hx270_1:=(HB.out.cell (zB w _ hx270_1)).trans hx270_1
          have HR270_1:=zA hi270_1
          have HC270_1:=zA hl270_1
          clear hi270_1 hl270_1
          replace p270:=eq_true p270
          replace q270:=eq_true q270
          go_wp2_with (first|((with_reducible refine zV (N:=7) rfl ?_);refine zW ?hg (N:=7) ?hd (cs:=#[.int .i64 0,.slice none 0 0]) (t:=70) ?hr ?_;(case hd=>rfl);(case hg=>rfl);(case hr=>first|(go_simp;done)|(go_simp;rfl));intro gb271 hg w20 hbox hb;have n0_:=zA (zN (g:=gb268) (o:=.cells #[.slice A0_0 l0_0.length c0_0,.slice (some ad270) l0_1.length c0_1] 68 (0,0)) (by (with_reducible repeat (first|refine zL ?_ _|refine zM ?_|refine zK ?_ _));exact BK268.out) hb);have n1_:=zA (zH (by repeat (first|(with_reducible first|exact HB.out|apply zD|apply zC|apply zE|refine zF ?_ GE268.out)|exact HB.out)) hb);have n2_:=zA (hbox);have n3_:=zA ((by rw [hg];exact (zG (by repeat (first|(with_reducible first|exact HB.out|apply zD|apply zC|apply zE|refine zF ?_ GE268.out)|exact HB.out))):w.heap.size ≤ gb271));have n4_:=zA ((by rw [hg];exact (zG (by repeat (first|(with_reducible first|exact HB.out|apply zD|apply zC|apply zE|refine zF ?_ GE268.out)|exact HB.out))):w.heap.size ≤ gb271));have n5_:=zA ((by rw [hg];exact Nat.ne_of_lt (blk_lt (g:=gb268) (o:=.cells #[.slice A0_0 l0_0.length c0_0,.slice (some ad270) l0_1.length c0_1] 68 (0,0)) (by (with_reducible repeat (first|refine zL ?_ _|refine zM ?_|refine zK ?_ _));exact BK268.out)):gb268 ≠ gb271));have n6_:=zA ((by rw [hg];exact Nat.ne_of_gt (blk_lt (g:=gb268) (o:=.cells #[.slice A0_0 l0_0.length c0_0,.slice (some ad270) l0_1.length c0_1] 68 (0,0)) (by (with_reducible repeat (first|refine zL ?_ _|refine zM ?_|refine zK ?_ _));exact BK268.out)):gb271 ≠ gb268));clear BK268;clear HB;have BK268:=n0_;have HB:=n1_;have BK271:=n2_;have GW271:=n3_;have GE271:=n4_;have NB268_271:=n5_;have NB271_268:=n6_;clear n0_ n1_ n2_ n3_ n4_ n5_ n6_;clear hb hbox hg;have hnb21:=NB271_268.out;have hnc21:=NB268_271.out;have hcz22_0:w20.cell? ⟨gb271,0,none⟩ = some (.int .i64 0):=(zI BK271.out 0).trans rfl;have hcz22_1:w20.cell? ⟨gb271,1,none⟩ = some (.slice none 0 0):=(zI BK271.out 1).trans rfl;have hfz22_0:=zJ BK271.out 0;have hfz22_1:=zJ BK271.out 1)|(go_at_call 56;(with_reducible refine (foretellref_In.calls ((rd_T70 l0_1 x6_1).f0) 0 (wrap64 (a1 - 1)) true _ A17.out).mono ?_);rintro e w' ⟨rfl,⟨nd,rfl⟩⟩;(try first|exact ⟨rfl,_,World.drewN_drewN _ _ _⟩|exact ⟨rfl,_,Eq.trans (World.drewN_drewN _ _ _) (congrArg (World.drewN _) (Nat.add_assoc _ _ _))⟩)))
          repeat (go_quiet (first|((with_reducible refine zV (N:=7) rfl ?_);refine zW ?hg (N:=7) ?hd (cs:=#[.int .i64 0,.slice none 0 0]) (t:=70) ?hr ?_;(case hd=>rfl);(case hg=>rfl);(case hr=>first|(go_simp;done)|(go_simp;rfl));intro gb271 hg w20 hbox hb;have n0_:=zA (zN (g:=gb268) (o:=.cells #[.slice A0_0 l0_0.length c0_0,.slice (some ad270) l0_1.length c0_1] 68 (0,0)) (by (with_reducible repeat (first|refine zL ?_ _|refine zM ?_|refine zK ?_ _));exact BK268.out) hb);have n1_:=zA (zH (by repeat (first|(with_reducible first|exact HB.out|apply zD|apply zC|apply zE|refine zF ?_ GE268.out)|exact HB.out)) hb);have n2_:=zA (hbox);have n3_:=zA ((by rw [hg];exact (zG (by repeat (first|(with_reducible first|exact HB.out|apply zD|apply zC|apply zE|refine zF ?_ GE268.out)|exact HB.out))):w.heap.size ≤ gb271));have n4_:=zA ((by rw [hg];exact (zG (by repeat (first|(with_reducible first|exact HB.out|apply zD|apply zC|apply zE|refine zF ?_ GE268.out)|exact HB.out))):w.heap.size ≤ gb271));have n5_:=zA ((by rw [hg];exact Nat.ne_of_lt (blk_lt (g:=gb268) (o:=.cells #[.slice A0_0 l0_0.length c0_0,.slice (some ad270) l0_1.length c0_1] 68 (0,0)) (by (with_reducible repeat (first|refine zL ?_ _|refine zM ?_|refine zK ?_ _));exact BK268.out)):gb268 ≠ gb271));have n6_:=zA ((by rw [hg];exact Nat.ne_of_gt (blk_lt (g:=gb268) (o:=.cells #[.slice A0_0 l0_0.length c0_0,.slice (some ad270) l0_1.length c0_1] 68 (0,0)) (by (with_reducible repeat (first|refine zL ?_ _|refine zM ?_|refine zK ?_ _));exact BK268.out)):gb271 ≠ gb268));clear BK268;clear HB;have BK268:=n0_;have HB:=n1_;have BK271:=n2_;have GW271:=n3_;have GE271:=n4_;have NB268_271:=n5_;have NB271_268:=n6_;clear n0_ n1_ n2_ n3_ n4_ n5_ n6_;clear hb hbox hg;have hnb21:=NB271_268.out;have hnc21:=NB268_271.out;have hcz22_0:w20.cell? ⟨gb271,0,none⟩ = some (.int .i64 0):=(zI BK271.out 0).trans rfl;have hcz22_1:w20.cell? ⟨gb271,1,none⟩ = some (.slice none 0 0):=(zI BK271.out 1).trans rfl;have hfz22_0:=zJ BK271.out 0;have hfz22_1:=zJ BK271.out 1)|(go_at_call 56;(with_reducible refine (foretellref_In.calls ((rd_T70 l0_1 x6_1).f0) 0 (wrap64 (a1 - 1)) true _ A17.out).mono ?_);rintro e w' ⟨rfl,⟨nd,rfl⟩⟩;(try first|exact ⟨rfl,_,World.drewN_drewN _ _ _⟩|exact ⟨rfl,_,Eq.trans (World.drewN_drewN _ _ _) (congrArg (World.drewN _) (Nat.add_assoc _ _ _))⟩)));try go_wp2_with (first|((with_reducible refine zV (N:=7) rfl ?_);refine zW ?hg (N:=7) ?hd (cs:=#[.int .i64 0,.slice none 0 0]) (t:=70) ?hr ?_;(case hd=>rfl);(case hg=>rfl);(case hr=>first|(go_simp;done)|(go_simp;rfl));intro gb271 hg w20 hbox hb;have n0_:=zA (zN (g:=gb268) (o:=.cells #[.slice A0_0 l0_0.length c0_0,.slice (some ad270) l0_1.length c0_1] 68 (0,0)) (by (with_reducible repeat (first|refine zL ?_ _|refine zM ?_|refine zK ?_ _));exact BK268.out) hb);have n1_:=zA (zH (by repeat (first|(with_reducible first|exact HB.out|apply zD|apply zC|apply zE|refine zF ?_ GE268.out)|exact HB.out)) hb);have n2_:=zA (hbox);have n3_:=zA ((by rw [hg];exact (zG (by repeat (first|(with_reducible first|exact HB.out|apply zD|apply zC|apply zE|refine zF ?_ GE268.out)|exact HB.out))):w.heap.size ≤ gb271));have n4_:=zA ((by rw [hg];exact (zG (by repeat (first|(with_reducible first|exact HB.out|apply zD|apply zC|apply zE|refine zF ?_ GE268.out)|exact HB.out))):w.heap.size ≤ gb271));have n5_:=zA ((by rw [hg];exact Nat.ne_of_lt (blk_lt (g:=gb268) (o:=.cells #[.slice A0_0 l0_0.length c0_0,.slice (some ad270) l0_1.length c0_1] 68 (0,0)) (by (with_reducible repeat (first|refine zL ?_ _|refine zM ?_|refine zK ?_ _));exact BK268.out)):gb268 ≠ gb271));have n6_:=zA ((by rw [hg];exact Nat.ne_of_gt (blk_lt (g:=gb268) (o:=.cells #[.slice A0_0 l0_0.length c0_0,.slice (some ad270) l0_1.length c0_1] 68 (0,0)) (by (with_reducible repeat (first|refine zL ?_ _|refine zM ?_|refine zK ?_ _));exact BK268.out)):gb271 ≠ gb268));clear BK268;clear HB;have BK268:=n0_;have HB:=n1_;have BK271:=n2_;have GW271:=n3_;have GE271:=n4_;have NB268_271:=n5_;have NB271_268:=n6_;clear n0_ n1_ n2_ n3_ n4_ n5_ n6_;clear hb hbox hg;have hnb21:=NB271_268.out;have hnc21:=NB268_271.out;have hcz22_0:w20.cell? ⟨gb271,0,none⟩ = some (.int .i64 0):=(zI BK271.out 0).trans rfl;have hcz22_1:w20.cell? ⟨gb271,1,none⟩ = some (.slice none 0 0):=(zI BK271.out 1).trans rfl;have hfz22_0:=zJ BK271.out 0;have hfz22_1:=zJ BK271.out 1)|(go_at_call 56;(with_reducible refine (foretellref_In.calls ((rd_T70 l0_1 x6_1).f0) 0 (wrap64 (a1 - 1)) true _ A17.out).mono ?_);rintro e w' ⟨rfl,⟨nd,rfl⟩⟩;(try first|exact ⟨rfl,_,World.drewN_drewN _ _ _⟩|exact ⟨rfl,_,Eq.trans (World.drewN_drewN _ _ _) (congrArg (World.drewN _) (Nat.add_assoc _ _ _))⟩))))
          go_loopg [8] kj9 (fun kq v8 w'=>∃ (x8_3:Int),v8 = .int .i64 x8_3∧Aside0 (foretellref_ruleFault.l1 kq a1 x6_1 x8_3 l0_0 l0_1 ((rd_T70 l0_1 x6_1).f0) ((rd_T70 l0_1 x6_1).f1) = some r)∧Aside0 (kq ≤ kj9)∧Aside0 (w'.heap[gb268]? = some (.cells #[(.slice A0_0 l0_0.length c0_0),(.slice (some ad270) l0_1.length c0_1)] 68 (0,0)))∧Aside0 (w'.heap[gb271]? = some (.cells #[.int .i64 ((rd_T70 l0_1 x6_1).f0),(.slice A270_1 ((rd_T70 l0_1 x6_1).f1).length c270_1)] 70 (0,0)))∧Aside0 (Below w.heap.size w w'))
          case atStart=>exact ⟨(0),(by first|rfl|(simp;done)|(simp [*];done)),H',⟨Nat.le_refl _⟩,⟨by (with_reducible repeat (first|refine zL ?_ _|refine zM ?_|refine zK ?_ _));refine blk_far ?_ NB268_271.out _;(with_reducible repeat (first|refine zL ?_ _|refine zM ?_|refine zK ?_ _));refine blk_far ?_ NB268_271.out _;(with_reducible repeat (first|refine zL ?_ _|refine zM ?_|refine zK ?_ _));exact BK268.out⟩,⟨by (with_reducible repeat (first|refine zL ?_ _|refine zM ?_|refine zK ?_ _));refine zO (cs:=#[.int .i64 ((rd_T70 l0_1 x6_1).f0),.slice none 0 0]) ?_ 1 _ rfl;(with_reducible repeat (first|refine zL ?_ _|refine zM ?_|refine zK ?_ _));refine zO (cs:=#[.int .i64 0,.slice none 0 0]) ?_ 0 _ rfl;(with_reducible repeat (first|refine zL ?_ _|refine zM ?_|refine zK ?_ _));exact BK271.out⟩,⟨by repeat (first|(with_reducible first|exact HB.out|apply zD|apply zC|apply zE|refine zF ?_ GE268.out|refine zF ?_ GE271.out)|exact HB.out)⟩⟩
          case round =>
           clear H'
           try clear c1
           try clear c2
           try clear p2
           try clear q2
           try clear hx2
           try clear c3
           try clear c3b0
           try clear c3b1
           try clear c5
           try clear p6
           try clear c11
           try clear c11b0
           try clear c14
           try clear c15
           try clear c15b0
           try clear c16
           try clear c16b0
           try clear c18
           try clear c21
           try clear hcz12_0
           try clear hcz12_1
           try clear hcz13_0
           try clear hcz13_1
           try clear hcz19_0
           try clear hcz19_1
           try clear hcz22_0
           try clear hcz22_1
           try clear hcz5_0
           try clear hcz5_1
           try clear hcz8_0
           try clear hcz8_1
           try clear hfz12_0
           try clear hfz12_1
           try clear hfz13_0
           try clear hfz13_1
           try clear hfz19_0
           try clear hfz19_1
           try clear hfz22_0
           try clear hfz22_1
           try clear hfz5_0
           try clear hfz5_1
           try clear hfz8_0
           try clear hfz8_1
           try clear hx270_0
           try clear hx270_1
           try clear p2
           try clear p270
           try clear q270
           obtain ⟨x8_3,rfl,HA,HK3,BK268,BK271,HB⟩:=hrel
           cases gk with
           | zero=>exact absurd HA.out (by simp [foretellref_ruleFault.l1])
           | succ k3 =>
            have H:=HA.out
            clear HA
            simp only [foretellref_ruleFault.l1] at H
            by_cases c23:x8_3 < x6_1
            ·rw [if_pos c23] at H
             have c23b0:decide (x8_3 < x6_1) = true:=zQ c23
             clear c23
             by_cases c24:0 ≤ x8_3
             ·rw [if_pos c24] at H
              have c24b0:decide (0 ≤ x8_3) = true:=zQ c24
              clear c24
              by_cases c25:x8_3 < (l0_1.length:Int)
              ·rw [if_pos c25] at H
               have c25b0:decide (x8_3 < (l0_1.length:Int)) = true:=zQ c25
               clear c25
               by_cases c26:((rd_T70 l0_1 x8_3).f0) = ((rd_T70 l0_1 x6_1).f0)
               ·rw [if_pos c26] at H
                have c26b0:(((rd_T70 l0_1 x8_3).f0) == ((rd_T70 l0_1 x6_1).f0)) = true:=beq_iff_eq.mpr c26
                have c26b1:(((rd_T70 l0_1 x8_3).f0) != ((rd_T70 l0_1 x6_1).f0)) = false:=bne_eq_false_iff_eq.mpr c26
                clear c26
                obtain rfl:=Option.some.inj H
                have hnb27:=NB268_271.out
                have hnc27:=NB271_268.out
                have hcz28_0:wr.cell? ⟨gb268,0,none⟩ = some (.slice A0_0 l0_0.length c0_0):=(zI BK268.out 0).trans rfl
                have hcz28_1:wr.cell? ⟨gb268,1,none⟩ = some (.slice (some ad270) l0_1.length c0_1):=(zI BK268.out 1).trans rfl
                have hfz28_0:=zJ BK268.out 0
                have hfz28_1:=zJ BK268.out 1
                have p273:0 ≤ (x8_3:Int):=zP (by assumption)
                have q273:x8_3 < (l0_1.length:Int):=zP (by assumption)
                obtain ⟨ad273,A273_1,c273_1,e273,hx273_0,hx273_1,hl273_1,hi273_1⟩:=at_T70 HR0_1.out x8_3 p273 q273
                obtain rfl:ad270 = ad273:=(by injection e273)
                replace hx273_0:=(HB.out.cell (zB w _ hx273_0)).trans hx273_0
                replace hx273_1:=(HB.out.cell (zB w _ hx273_1)).trans hx273_1
                have HR273_1:=zA hi273_1
                have HC273_1:=zA hl273_1
                clear hi273_1 hl273_1
                replace p273:=eq_true p273
                replace q273:=eq_true q273
                have hcz29_0:wr.cell? ⟨gb271,0,none⟩ = some (.int .i64 ((rd_T70 l0_1 x6_1).f0)):=(zI BK271.out 0).trans rfl
                have hcz29_1:wr.cell? ⟨gb271,1,none⟩ = some (.slice A270_1 ((rd_T70 l0_1 x6_1).f1).length c270_1):=(zI BK271.out 1).trans rfl
                have hfz29_0:=zJ BK271.out 0
                have hfz29_1:=zJ BK271.out 1
                go_wp2
                repeat (go_quiet (fail);try go_wp2)
                go_ret
                exact ⟨by first|rfl|(simp [errW_none,errW_some] <;> rfl)|(simp [*,errW_none,errW_some] <;> rfl),by repeat (first|(with_reducible first|exact HB.out|apply zD|apply zC|apply zE|refine zF ?_ GE268.out|refine zF ?_ GE271.out)|exact HB.out)⟩
               ·rw [if_neg c26] at H
                have c26b0:(((rd_T70 l0_1 x8_3).f0) == ((rd_T70 l0_1 x6_1).f0)) = false:=beq_eq_false_iff_ne.mpr c26
                have c26b1:(((rd_T70 l0_1 x8_3).f0) != ((rd_T70 l0_1 x6_1).f0)) = true:=bne_iff_ne.mpr c26
                have H':=zA H
                clear H
                have hnb30:=NB268_271.out
                have hnc30:=NB271_268.out
                have hcz31_0:wr.cell? ⟨gb268,0,none⟩ = some (.slice A0_0 l0_0.length c0_0):=(zI BK268.out 0).trans rfl
                have hcz31_1:wr.cell? ⟨gb268,1,none⟩ = some (.slice (some ad270) l0_1.length c0_1):=(zI BK268.out 1).trans rfl
                have hfz31_0:=zJ BK268.out 0
                have hfz31_1:=zJ BK268.out 1
                have p273:0 ≤ (x8_3:Int):=zP (by assumption)
                have q273:x8_3 < (l0_1.length:Int):=zP (by assumption)
                obtain ⟨ad273,A273_1,c273_1,e273,hx273_0,hx273_1,hl273_1,hi273_1⟩:=at_T70 HR0_1.out x8_3 p273 q273
                obtain rfl:ad270 = ad273:=(by injection e273)
                replace hx273_0:=(HB.out.cell (zB w _ hx273_0)).trans hx273_0
                replace hx273_1:=(HB.out.cell (zB w _ hx273_1)).trans hx273_1
                have HR273_1:=zA hi273_1
                have HC273_1:=zA hl273_1
                clear hi273_1 hl273_1
                replace p273:=eq_true p273
                replace q273:=eq_true q273
                have hcz32_0:wr.cell? ⟨gb271,0,none⟩ = some (.int .i64 ((rd_T70 l0_1 x6_1).f0)):=(zI BK271.out 0).trans rfl
                have hcz32_1:wr.cell? ⟨gb271,1,none⟩ = some (.slice A270_1 ((rd_T70 l0_1 x6_1).f1).length c270_1):=(zI BK271.out 1).trans rfl
                have hfz32_0:=zJ BK271.out 0
                have hfz32_1:=zJ BK271.out 1
                go_wp2
                repeat (go_quiet (fail);try go_wp2)
                go_roundg k3
                case measure=>have:=HK1.out;have:=HJ9.out;have:=HK3.out;omega
                case rel=>exact ⟨(wrap64 (x8_3 + 1)),(by first|rfl|(simp;done)|(simp [*];done)),H',⟨by have:=HK1.out;have:=HJ9.out;have:=HK3.out;omega⟩,⟨by (with_reducible repeat (first|refine zL ?_ _|refine zM ?_|refine zK ?_ _));exact BK268.out⟩,⟨by (with_reducible repeat (first|refine zL ?_ _|refine zM ?_|refine zK ?_ _));exact BK271.out⟩,⟨by repeat (first|(with_reducible first|exact HB.out|apply zD|apply zC|apply zE|refine zF ?_ GE268.out|refine zF ?_ GE271.out)|exact HB.out)⟩⟩
              ·rw [if_neg c25] at H
               exact absurd H (by simp)
             ·rw [if_neg c24] at H
              exact absurd H (by simp)
            ·rw [if_neg c23] at H
             have c23b0:decide (x8_3 < x6_1) = false:=zR c23
             clear c23
             replace H:=zb.mp H
             obtain ⟨t274,A330,H⟩:=H
             replace H:(foretellref_ruleFault.l0 k3 a1 t274 (wrap64 (x6_1 + 1)) l0_0 l0_1) = some r:=H
             have A33:=zA A330
             clear A330
             have H':=zA H
             clear H
             have hnb34:=NB271_268.out
             have hnc34:=NB268_271.out
             have hcz35_0:wr.cell? ⟨gb271,0,none⟩ = some (.int .i64 ((rd_T70 l0_1 x6_1).f0)):=(zI BK271.out 0).trans rfl
             have hcz35_1:wr.cell? ⟨gb271,1,none⟩ = some (.slice A270_1 ((rd_T70 l0_1 x6_1).f1).length c270_1):=(zI BK271.out 1).trans rfl
             have hfz35_0:=zJ BK271.out 0
             have hfz35_1:=zJ BK271.out 1
             go_wp2_with (first|(go_at_call 55;(with_reducible refine (foretellref_kindFault.calls k3 _ _ ((rd_T70 l0_1 x6_1).f1) a1 false t274 _ ?side1 ?side2 A33.out).mono ?_);(case side1=>repeat (first|exact (zT HR270_1.out HB.out)|(with_reducible refine Kd.C_alloc ?_ _)|(with_reducible refine Kd.C_drewN ?_ _)|(with_reducible refine Kd.C_drew ?_)));(case side2=>exact HC270_1.out);rintro e w36 ⟨rfl,hb⟩;have n0_:=zA (zN (g:=gb268) (o:=.cells #[.slice A0_0 l0_0.length c0_0,.slice (some ad270) l0_1.length c0_1] 68 (0,0)) (by (with_reducible repeat (first|refine zL ?_ _|refine zM ?_|refine zK ?_ _));exact BK268.out) hb);have n1_:=zA (zN (g:=gb271) (o:=.cells #[.int .i64 ((rd_T70 l0_1 x6_1).f0),.slice A270_1 ((rd_T70 l0_1 x6_1).f1).length c270_1] 70 (0,0)) (by (with_reducible repeat (first|refine zL ?_ _|refine zM ?_|refine zK ?_ _));exact BK271.out) hb);have n2_:=zA (zH (by repeat (first|(with_reducible first|exact HB.out|apply zD|apply zC|apply zE|refine zF ?_ GE268.out|refine zF ?_ GE271.out)|exact HB.out)) hb);clear BK268;clear BK271;clear HB;have BK268:=n0_;have BK271:=n1_;have HB:=n2_;clear n0_ n1_ n2_;(try clear hb);(try clear hb2);(try clear hk);(try clear hi)))
             repeat (go_quiet (first|(go_at_call 55;(with_reducible refine (foretellref_kindFault.calls k3 _ _ ((rd_T70 l0_1 x6_1).f1) a1 false t274 _ ?side1 ?side2 A33.out).mono ?_);(case side1=>repeat (first|exact (zT HR270_1.out HB.out)|(with_reducible refine Kd.C_alloc ?_ _)|(with_reducible refine Kd.C_drewN ?_ _)|(with_reducible refine Kd.C_drew ?_)));(case side2=>exact HC270_1.out);rintro e w36 ⟨rfl,hb⟩;have n0_:=zA (zN (g:=gb268) (o:=.cells #[.slice A0_0 l0_0.length c0_0,.slice (some ad270) l0_1.length c0_1] 68 (0,0)) (by (with_reducible repeat (first|refine zL ?_ _|refine zM ?_|refine zK ?_ _));exact BK268.out) hb);have n1_:=zA (zN (g:=gb271) (o:=.cells #[.int .i64 ((rd_T70 l0_1 x6_1).f0),.slice A270_1 ((rd_T70 l0_1 x6_1).f1).length c270_1] 70 (0,0)) (by (with_reducible repeat (first|refine zL ?_ _|refine zM ?_|refine zK ?_ _));exact BK271.out) hb);have n2_:=zA (zH (by repeat (first|(with_reducible first|exact HB.out|apply zD|apply zC|apply zE|refine zF ?_ GE268.out|refine zF ?_ GE271.out)|exact HB.out)) hb);clear BK268;clear BK271;clear HB;have BK268:=n0_;have BK271:=n1_;have HB:=n2_;clear n0_ n1_ n2_;(try clear hb);(try clear hb2);(try clear hk);(try clear hi)));try go_wp2_with (first|(go_at_call 55;(with_reducible refine (foretellref_kindFault.calls k3 _ _ ((rd_T70 l0_1 x6_1).f1) a1 false t274 _ ?side1 ?side2 A33.out).mono ?_);(case side1=>repeat (first|exact (zT HR270_1.out HB.out)|(with_reducible refine Kd.C_alloc ?_ _)|(with_reducible refine Kd.C_drewN ?_ _)|(with_reducible refine Kd.C_drew ?_)));(case side2=>exact HC270_1.out);rintro e w36 ⟨rfl,hb⟩;have n0_:=zA (zN (g:=gb268) (o:=.cells #[.slice A0_0 l0_0.length c0_0,.slice (some ad270) l0_1.length c0_1] 68 (0,0)) (by (with_reducible repeat (first|refine zL ?_ _|refine zM ?_|refine zK ?_ _));exact BK268.out) hb);have n1_:=zA (zN (g:=gb271) (o:=.cells #[.int .i64 ((rd_T70 l0_1 x6_1).f0),.slice A270_1 ((rd_T70 l0_1 x6_1).f1).length c270_1] 70 (0,0)) (by (with_reducible repeat (first|refine zL ?_ _|refine zM ?_|refine zK ?_ _));exact BK271.out) hb);have n2_:=zA (zH (by repeat (first|(with_reducible first|exact HB.out|apply zD|apply zC|apply zE|refine zF ?_ GE268.out|refine zF ?_ GE271.out)|exact HB.out)) hb);clear BK268;clear BK271;clear HB;have BK268:=n0_;have BK271:=n1_;have HB:=n2_;clear n0_ n1_ n2_;(try clear hb);(try clear hb2);(try clear hk);(try clear hi))))
             go_roundg k3
             case measure=>have:=HK1.out;have:=HJ9.out;have:=HK3.out;omega
             case rel=>exact ⟨(t274),(wrap64 (x6_1 + 1)),(by first|rfl|(simp;done)|(simp [*];done)),(by first|rfl|(simp;done)|(simp [*];done)),H',⟨by have:=HK1.out;have:=HJ9.out;have:=HK3.out;omega⟩,⟨by (with_reducible repeat (first|refine zL ?_ _|refine zM ?_|refine zK ?_ _));exact BK268.out⟩,⟨by repeat (first|(with_reducible first|exact HB.out|apply zD|apply zC|apply zE|refine zF ?_ GE268.out|refine zF ?_ GE271.out)|exact HB.out)⟩⟩
         ·replace c18:=Bool.eq_false_iff.mpr c18
          subst c18
          have H1:(some 2) = some r:=by rw [if_neg (show ¬ (false = true) by decide)] at H;exact H
          clear H
          have H:=H1
          clear H1
          obtain rfl:=Option.some.inj H
          have hcz37_0:wc.cell? ⟨gb268,0,none⟩ = some (.slice A0_0 l0_0.length c0_0):=(zI BK268.out 0).trans rfl
          have hcz37_1:wc.cell? ⟨gb268,1,none⟩ = some (.slice A0_1 l0_1.length c0_1):=(zI BK268.out 1).trans rfl
          have hfz37_0:=zJ BK268.out 0
          have hfz37_1:=zJ BK268.out 1
          have p270:0 ≤ (x6_1:Int):=zP (by assumption)
          have q270:x6_1 < (l0_1.length:Int):=zP (by assumption)
          obtain ⟨ad270,A270_1,c270_1,e270,hx270_0,hx270_1,hl270_1,hi270_1⟩:=at_T70 HR0_1.out x6_1 p270 q270
          cases e270
          replace hx270_0:=(HB.out.cell (zB w _ hx270_0)).trans hx270_0
          replace hx270_1:=(HB.out.cell (zB w _ hx270_1)).trans hx270_1
          have HR270_1:=zA hi270_1
          have HC270_1:=zA hl270_1
          clear hi270_1 hl270_1
          replace p270:=eq_true p270
          replace q270:=eq_true q270
          go_wp2_with (first|((with_reducible refine zV (N:=7) rfl ?_);refine zW ?hg (N:=7) ?hd (cs:=#[.int .i64 0,.slice none 0 0]) (t:=70) ?hr ?_;(case hd=>rfl);(case hg=>rfl);(case hr=>first|(go_simp;done)|(go_simp;rfl));intro gb271 hg w38 hbox hb;have n0_:=zA (zN (g:=gb268) (o:=.cells #[.slice A0_0 l0_0.length c0_0,.slice (some ad270) l0_1.length c0_1] 68 (0,0)) (by (with_reducible repeat (first|refine zL ?_ _|refine zM ?_|refine zK ?_ _));exact BK268.out) hb);have n1_:=zA (zH (by repeat (first|(with_reducible first|exact HB.out|apply zD|apply zC|apply zE|refine zF ?_ GE268.out)|exact HB.out)) hb);have n2_:=zA (hbox);have n3_:=zA ((by rw [hg];exact (zG (by repeat (first|(with_reducible first|exact HB.out|apply zD|apply zC|apply zE|refine zF ?_ GE268.out)|exact HB.out))):w.heap.size ≤ gb271));have n4_:=zA ((by rw [hg];exact (zG (by repeat (first|(with_reducible first|exact HB.out|apply zD|apply zC|apply zE|refine zF ?_ GE268.out)|exact HB.out))):w.heap.size ≤ gb271));have n5_:=zA ((by rw [hg];exact Nat.ne_of_lt (blk_lt (g:=gb268) (o:=.cells #[.slice A0_0 l0_0.length c0_0,.slice (some ad270) l0_1.length c0_1] 68 (0,0)) (by (with_reducible repeat (first|refine zL ?_ _|refine zM ?_|refine zK ?_ _));exact BK268.out)):gb268 ≠ gb271));have n6_:=zA ((by rw [hg];exact Nat.ne_of_gt (blk_lt (g:=gb268) (o:=.cells #[.slice A0_0 l0_0.length c0_0,.slice (some ad270) l0_1.length c0_1] 68 (0,0)) (by (with_reducible repeat (first|refine zL ?_ _|refine zM ?_|refine zK ?_ _));exact BK268.out)):gb271 ≠ gb268));clear BK268;clear HB;have BK268:=n0_;have HB:=n1_;have BK271:=n2_;have GW271:=n3_;have GE271:=n4_;have NB268_271:=n5_;have NB271_268:=n6_;clear n0_ n1_ n2_ n3_ n4_ n5_ n6_;clear hb hbox hg;have hnb39:=NB271_268.out;have hnc39:=NB268_271.out;have hcz40_0:w38.cell? ⟨gb271,0,none⟩ = some (.int .i64 0):=(zI BK271.out 0).trans rfl;have hcz40_1:w38.cell? ⟨gb271,1,none⟩ = some (.slice none 0 0):=(zI BK271.out 1).trans rfl;have hfz40_0:=zJ BK271.out 0;have hfz40_1:=zJ BK271.out 1)|(go_at_call 56;(with_reducible refine (foretellref_In.calls ((rd_T70 l0_1 x6_1).f0) 0 (wrap64 (a1 - 1)) false _ A17.out).mono ?_);rintro e w' ⟨rfl,⟨nd,rfl⟩⟩;(try first|exact ⟨rfl,_,World.drewN_drewN _ _ _⟩|exact ⟨rfl,_,Eq.trans (World.drewN_drewN _ _ _) (congrArg (World.drewN _) (Nat.add_assoc _ _ _))⟩)))
          repeat (go_quiet (first|((with_reducible refine zV (N:=7) rfl ?_);refine zW ?hg (N:=7) ?hd (cs:=#[.int .i64 0,.slice none 0 0]) (t:=70) ?hr ?_;(case hd=>rfl);(case hg=>rfl);(case hr=>first|(go_simp;done)|(go_simp;rfl));intro gb271 hg w38 hbox hb;have n0_:=zA (zN (g:=gb268) (o:=.cells #[.slice A0_0 l0_0.length c0_0,.slice (some ad270) l0_1.length c0_1] 68 (0,0)) (by (with_reducible repeat (first|refine zL ?_ _|refine zM ?_|refine zK ?_ _));exact BK268.out) hb);have n1_:=zA (zH (by repeat (first|(with_reducible first|exact HB.out|apply zD|apply zC|apply zE|refine zF ?_ GE268.out)|exact HB.out)) hb);have n2_:=zA (hbox);have n3_:=zA ((by rw [hg];exact (zG (by repeat (first|(with_reducible first|exact HB.out|apply zD|apply zC|apply zE|refine zF ?_ GE268.out)|exact HB.out))):w.heap.size ≤ gb271));have n4_:=zA ((by rw [hg];exact (zG (by repeat (first|(with_reducible first|exact HB.out|apply zD|apply zC|apply zE|refine zF ?_ GE268.out)|exact HB.out))):w.heap.size ≤ gb271));have n5_:=zA ((by rw [hg];exact Nat.ne_of_lt (blk_lt (g:=gb268) (o:=.cells #[.slice A0_0 l0_0.length c0_0,.slice (some ad270) l0_1.length c0_1] 68 (0,0)) (by (with_reducible repeat (first|refine zL ?_ _|refine zM ?_|refine zK ?_ _));exact BK268.out)):gb268 ≠ gb271));have n6_:=zA ((by rw [hg];exact Nat.ne_of_gt (blk_lt (g:=gb268) (o:=.cells #[.slice A0_0 l0_0.length c0_0,.slice (some ad270) l0_1.length c0_1] 68 (0,0)) (by (with_reducible repeat (first|refine zL ?_ _|refine zM ?_|refine zK ?_ _));exact BK268.out)):gb271 ≠ gb268));clear BK268;clear HB;have BK268:=n0_;have HB:=n1_;have BK271:=n2_;have GW271:=n3_;have GE271:=n4_;have NB268_271:=n5_;have NB271_268:=n6_;clear n0_ n1_ n2_ n3_ n4_ n5_ n6_;clear hb hbox hg;have hnb39:=NB271_268.out;have hnc39:=NB268_271.out;have hcz40_0:w38.cell? ⟨gb271,0,none⟩ = some (.int .i64 0):=(zI BK271.out 0).trans rfl;have hcz40_1:w38.cell? ⟨gb271,1,none⟩ = some (.slice none 0 0):=(zI BK271.out 1).trans rfl;have hfz40_0:=zJ BK271.out 0;have hfz40_1:=zJ BK271.out 1)|(go_at_call 56;(with_reducible refine (foretellref_In.calls ((rd_T70 l0_1 x6_1).f0) 0 (wrap64 (a1 - 1)) false _ A17.out).mono ?_);rintro e w' ⟨rfl,⟨nd,rfl⟩⟩;(try first|exact ⟨rfl,_,World.drewN_drewN _ _ _⟩|exact ⟨rfl,_,Eq.trans (World.drewN_drewN _ _ _) (congrArg (World.drewN _) (Nat.add_assoc _ _ _))⟩)));try go_wp2_with (first|((with_reducible refine zV (N:=7) rfl ?_);refine zW ?hg (N:=7) ?hd (cs:=#[.int .i64 0,.slice none 0 0]) (t:=70) ?hr ?_;(case hd=>rfl);(case hg=>rfl);(case hr=>first|(go_simp;done)|(go_simp;rfl));intro gb271 hg w38 hbox hb;have n0_:=zA (zN (g:=gb268) (o:=.cells #[.slice A0_0 l0_0.length c0_0,.slice (some ad270) l0_1.length c0_1] 68 (0,0)) (by (with_reducible repeat (first|refine zL ?_ _|refine zM ?_|refine zK ?_ _));exact BK268.out) hb);have n1_:=zA (zH (by repeat (first|(with_reducible first|exact HB.out|apply zD|apply zC|apply zE|refine zF ?_ GE268.out)|exact HB.out)) hb);have n2_:=zA (hbox);have n3_:=zA ((by rw [hg];exact (zG (by repeat (first|(with_reducible first|exact HB.out|apply zD|apply zC|apply zE|refine zF ?_ GE268.out)|exact HB.out))):w.heap.size ≤ gb271));have n4_:=zA ((by rw [hg];exact (zG (by repeat (first|(with_reducible first|exact HB.out|apply zD|apply zC|apply zE|refine zF ?_ GE268.out)|exact HB.out))):w.heap.size ≤ gb271));have n5_:=zA ((by rw [hg];exact Nat.ne_of_lt (blk_lt (g:=gb268) (o:=.cells #[.slice A0_0 l0_0.length c0_0,.slice (some ad270) l0_1.length c0_1] 68 (0,0)) (by (with_reducible repeat (first|refine zL ?_ _|refine zM ?_|refine zK ?_ _));exact BK268.out)):gb268 ≠ gb271));have n6_:=zA ((by rw [hg];exact Nat.ne_of_gt (blk_lt (g:=gb268) (o:=.cells #[.slice A0_0 l0_0.length c0_0,.slice (some ad270) l0_1.length c0_1] 68 (0,0)) (by (with_reducible repeat (first|refine zL ?_ _|refine zM ?_|refine zK ?_ _));exact BK268.out)):gb271 ≠ gb268));clear BK268;clear HB;have BK268:=n0_;have HB:=n1_;have BK271:=n2_;have GW271:=n3_;have GE271:=n4_;have NB268_271:=n5_;have NB271_268:=n6_;clear n0_ n1_ n2_ n3_ n4_ n5_ n6_;clear hb hbox hg;have hnb39:=NB271_268.out;have hnc39:=NB268_271.out;have hcz40_0:w38.cell? ⟨gb271,0,none⟩ = some (.int .i64 0):=(zI BK271.out 0).trans rfl;have hcz40_1:w38.cell? ⟨gb271,1,none⟩ = some (.slice none 0 0):=(zI BK271.out 1).trans rfl;have hfz40_0:=zJ BK271.out 0;have hfz40_1:=zJ BK271.out 1)|(go_at_call 56;(with_reducible refine (foretellref_In.calls ((rd_T70 l0_1 x6_1).f0) 0 (wrap64 (a1 - 1)) false _ A17.out).mono ?_);rintro e w' ⟨rfl,⟨nd,rfl⟩⟩;(try first|exact ⟨rfl,_,World.drewN_drewN _ _ _⟩|exact ⟨rfl,_,Eq.trans (World.drewN_drewN _ _ _) (congrArg (World.drewN _) (Nat.add_assoc _ _ _))⟩))))
          go_ret
          exact ⟨by first|rfl|(simp [errW_none,errW_some] <;> rfl)|(simp [*,errW_none,errW_some] <;> rfl),by repeat (first|(with_reducible first|exact HB.out|apply zD|apply zC|apply zE|refine zF ?_ GE268.out|refine zF ?_ GE271.out)|exact HB.out)⟩
        ·rw [if_neg c16] at H
         exact absurd H (by simp)
       ·rw [if_neg c15] at H
        exact absurd H (by simp)
      ·replace c14:=Bool.eq_false_iff.mpr c14
       subst c14
       have H1:(some x5_1) = some r:=by rw [if_neg (show ¬ (false = true) by decide)] at H;exact H
       clear H
       have H:=H1
       clear H1
       obtain rfl:=Option.some.inj H
       go_wp2
       repeat (go_quiet (fail);try go_wp2)
       go_ret
       exact ⟨by first|rfl|(simp [errW_none,errW_some] <;> rfl)|(simp [*,errW_none,errW_some] <;> rfl),by repeat (first|(with_reducible first|exact HB.out|apply zD|apply zC|apply zE|refine zF ?_ GE268.out)|exact HB.out)⟩
def foretellref_ModelFault.l0:Nat → Int → Int → List (S74) → List (S68) → Option (Int)
 | 0,_,_,_,_=>none
 | k + 1,x3,x4,x276000,x276001=>if x4 < (x276001.length:Int) then (if x3 = 0 then (if 0 ≤ x4 then ((foretellref_ruleFault.f k ((rd_T68 x276001 x4).f0) ((rd_T68 x276001 x4).f1) (x276000.length:Int)).bind fun t278=>(foretellref_ModelFault.l0 k t278 (wrap64 (x4 + 1)) x276000 x276001)) else (none)) else (some x3)) else (some x3)
def foretellref_ModelFault.f (k:Nat) (l0_0:List (S74)) (l0_1:List (S68)):Option (Int):=(foretellref_variablesFault.f k l0_0).bind fun t276=>(if t276 = 0 then (if (l0_1.length:Int) > 12 then (some 1) else (foretellref_ModelFault.l0 k t276 0 l0_0 l0_1)) else (some t276))
theorem foretellref_ModelFault.mono_l:∀ k,(∀ y0 y1 y2 y3,LeO (foretellref_ModelFault.l0 k y0 y1 y2 y3) (foretellref_ModelFault.l0 (k + 1) y0 y1 y2 y3))
 | 0=>fun _ _ _ _ r h=>by simp [foretellref_ModelFault.l0] at h
 | k + 1=>by
  have ih0:=foretellref_ModelFault.mono_l k
  ·intro y0 y1 y2 y3
   unfold foretellref_ModelFault.l0
   repeat' first
   | (with_reducible exact ih0 _ _ _ _)
   | (with_reducible exact foretellref_ruleFault.mono _ _ _ _)
   | (with_reducible exact foretellref_variablesFault.mono _ _)
   | (with_reducible exact LeO.refl _)
   | (with_reducible exact LeO.none _)
   | (with_reducible refine LeO.ite ?_ ?_)
   | (with_reducible refine LeO.bind ?_ (fun _=>?_))
   | exact ih0 _ _ _ _
   | exact foretellref_ruleFault.mono _ _ _ _
   | exact foretellref_variablesFault.mono _ _
   | exact LeO.none _
   | refine LeO.ite ?_ ?_
   | refine LeO.bind ?_ (fun _=>?_)
theorem foretellref_ModelFault.mono:∀ a0 a1 k,LeO (foretellref_ModelFault.f k a0 a1) (foretellref_ModelFault.f (k + 1) a0 a1):=by
 intro a0 a1 k
 have ih0:=foretellref_ModelFault.mono_l k
 unfold foretellref_ModelFault.f
 repeat' first
   | (with_reducible exact ih0 _ _ _ _)
   | (with_reducible exact foretellref_ruleFault.mono _ _ _ _)
   | (with_reducible exact foretellref_variablesFault.mono _ _)
   | (with_reducible exact LeO.refl _)
   | (with_reducible exact LeO.none _)
   | (with_reducible refine LeO.ite ?_ ?_)
   | (with_reducible refine LeO.bind ?_ (fun _=>?_))
   | exact ih0 _ _ _ _
   | exact foretellref_ruleFault.mono _ _ _ _
   | exact foretellref_variablesFault.mono _ _
   | exact LeO.none _
   | refine LeO.ite ?_ ?_
   | refine LeO.bind ?_ (fun _=>?_)
def foretellref_ModelFault.T9:Bool × List (List Nat × List Nat):=(true,[([],[]),([0],[0]),([],[]),([1,2],[1,2]),([3],[3]),([],[]),([5],[5]),([6],[6]),([4,7],[4,7]),([8,8,0,1,2,3,4,5,6,7,8],[8])])
def foretellref_ModelFault.B9:List Nat:=[0,1,0,7,15,0,32,96,255,511]
theorem foretellref_ModelFault.tab9:rtab .any (opsOf Tryd.f17 9) = foretellref_ModelFault.T9:=by kernel_rfl
theorem foretellref_ModelFault.bits9:waitsOk foretellref_ModelFault.T9.2 foretellref_ModelFault.B9 = true:=by kernel_rfl
set_option maxHeartbeats 8000000 in
set_option maxRecDepth 100000 in
theorem foretellref_ModelFault.calls (k:Nat) (A0_0:Option Addr) (c0_0:Nat) (l0_0:List (S74)) (A0_1:Option Addr) (c0_1:Nat) (l0_1:List (S68)) (r:Int) (w:World) (hr0_0:Kd.C k74 w A0_0 l0_0.length l0_0) (hc0_0:l0_0.length ≤ c0_0) (hr0_1:Kd.C k68 w A0_1 l0_1.length l0_1) (hc0_1:l0_1.length ≤ c0_1) (h:foretellref_ModelFault.f k l0_0 l0_1 = some r) :
  Calls Tryd.prog 17 #[.agg #[.slice A0_0 l0_0.length c0_0,.slice A0_1 l0_1.length c0_1]] w fun e w'=>e = .returned (.int .i64 r)∧Below w.heap.size w w':=by
 have hu25:=Tryd.underlying25
 have hu68:=Tryd.underlying68
 have HR0_0:=zA hr0_0
 have HC0_0:=zA hc0_0
 clear hr0_0 hc0_0
 have HR0_1:=zA hr0_1
 have HC0_1:=zA hc0_1
 clear hr0_1 hc0_1
 have HB:=zA (Below.refl w.heap.size w)
 have H:((foretellref_variablesFault.f k l0_0).bind fun t276=>(if t276 = 0 then (if (l0_1.length:Int) > 12 then (some 1) else (foretellref_ModelFault.l0 k t276 0 l0_0 l0_1)) else (some t276))) = some r:=h
 clear h
 replace H:=zb.mp H
 obtain ⟨t276,A20,H⟩:=H
 replace H:(if t276 = 0 then (if (l0_1.length:Int) > 12 then (some 1) else (foretellref_ModelFault.l0 k t276 0 l0_0 l0_1)) else (some t276)) = some r:=H
 have A2:=zA A20
 clear A20
 by_cases c3:t276 = 0
 ·rw [if_pos c3] at H
  have c3b0:(t276 == 0) = true:=beq_iff_eq.mpr c3
  have c3b1:(t276 != 0) = false:=bne_eq_false_iff_eq.mpr c3
  clear c3
  by_cases c4:(l0_1.length:Int) > 12
  ·rw [if_pos c4] at H
   have c4b0:decide (12 < (l0_1.length:Int)) = true:=zQ c4
   have c4b1:decide (12 < l0_1.length) = true:=zQ (by omega)
   clear c4
   obtain rfl:=Option.some.inj H
   go_enter Tryd.func17,Tryd.ntmps17
   go_wp2_with (first|((with_reducible refine zV (N:=1) rfl ?_);refine zW ?hg (N:=1) ?hd (cs:=#[.slice A0_0 l0_0.length c0_0,.slice A0_1 l0_1.length c0_1]) (t:=25) ?hr ?_;(case hd=>rfl);(case hg=>rfl);(case hr=>first|(go_simp;done)|(go_simp;rfl));intro gb275 hg w5 hbox hb;have n0_:=zA (zH (by repeat (first|(with_reducible first|exact HB.out|apply zD|apply zC|apply zE)|exact HB.out)) hb);have n1_:=zA (hbox);have n2_:=zA ((by rw [hg];exact (zG (by repeat (first|(with_reducible first|exact HB.out|apply zD|apply zC|apply zE)|exact HB.out))):w.heap.size ≤ gb275));have n3_:=zA ((by rw [hg];exact (zG (by repeat (first|(with_reducible first|exact HB.out|apply zD|apply zC|apply zE)|exact HB.out))):w.heap.size ≤ gb275));clear HB;have HB:=n0_;have BK275:=n1_;have GW275:=n2_;have GE275:=n3_;clear n0_ n1_ n2_ n3_;clear hb hbox hg;have hcz6_0:w5.cell? ⟨gb275,0,none⟩ = some (.slice A0_0 l0_0.length c0_0):=(zI BK275.out 0).trans rfl;have hcz6_1:w5.cell? ⟨gb275,1,none⟩ = some (.slice A0_1 l0_1.length c0_1):=(zI BK275.out 1).trans rfl;have hfz6_0:=zJ BK275.out 0;have hfz6_1:=zJ BK275.out 1)|((with_reducible refine zU (f:=50) rfl ?_);refine goesL_ (some 7) rfl rfl Tryd.func50 (by kernel_rfl) rfl #[.slice A0_0 l0_0.length c0_0] rfl (by (try simp only [zx,zy,zz]);first|done|rfl|(simp only [zd,zt];rfl)) ?_;(with_reducible refine (foretellref_variablesFault.calls k _ _ l0_0 t276 _ ?side1 ?side2 A2.out).mono ?_);(case side1=>repeat (first|exact (zT HR0_0.out HB.out)|(with_reducible refine Kd.C_alloc ?_ _)|(with_reducible refine Kd.C_drewN ?_ _)|(with_reducible refine Kd.C_drew ?_)));(case side2=>exact HC0_0.out);rintro e w7 ⟨rfl,hb⟩;refine ⟨_,rfl,?_⟩;have n0_:=zA (zN (g:=gb275) (o:=.cells #[.slice A0_0 l0_0.length c0_0,.slice A0_1 l0_1.length c0_1] 25 (0,0)) (by (with_reducible repeat (first|refine zL ?_ _|refine zM ?_|refine zK ?_ _));exact BK275.out) hb);have n1_:=zA (zH (by repeat (first|(with_reducible first|exact HB.out|apply zD|apply zC|apply zE|refine zF ?_ GE275.out)|exact HB.out)) hb);clear BK275;clear HB;have BK275:=n0_;have HB:=n1_;clear n0_ n1_;(try clear hb);(try clear hb2);(try clear hk);(try clear hi);have hcz8_0:w7.cell? ⟨gb275,0,none⟩ = some (.slice A0_0 l0_0.length c0_0):=(zI BK275.out 0).trans rfl;have hcz8_1:w7.cell? ⟨gb275,1,none⟩ = some (.slice A0_1 l0_1.length c0_1):=(zI BK275.out 1).trans rfl;have hfz8_0:=zJ BK275.out 0;have hfz8_1:=zJ BK275.out 1))
   go_ret
   exact ⟨by first|rfl|(simp [errW_none,errW_some] <;> rfl)|(simp [*,errW_none,errW_some] <;> rfl),by repeat (first|(with_reducible first|exact HB.out|apply zD|apply zC|apply zE|refine zF ?_ GE275.out)|exact HB.out)⟩
  ·rw [if_neg c4] at H
   have c4b0:decide (12 < (l0_1.length:Int)) = false:=zR c4
   have c4b1:decide (12 < l0_1.length) = false:=zR (by omega)
   clear c4
   have H':=zA H
   clear H
   go_enter Tryd.func17,Tryd.ntmps17
   go_wp2_with (first|((with_reducible refine zV (N:=1) rfl ?_);refine zW ?hg (N:=1) ?hd (cs:=#[.slice A0_0 l0_0.length c0_0,.slice A0_1 l0_1.length c0_1]) (t:=25) ?hr ?_;(case hd=>rfl);(case hg=>rfl);(case hr=>first|(go_simp;done)|(go_simp;rfl));intro gb275 hg w9 hbox hb;have n0_:=zA (zH (by repeat (first|(with_reducible first|exact HB.out|apply zD|apply zC|apply zE)|exact HB.out)) hb);have n1_:=zA (hbox);have n2_:=zA ((by rw [hg];exact (zG (by repeat (first|(with_reducible first|exact HB.out|apply zD|apply zC|apply zE)|exact HB.out))):w.heap.size ≤ gb275));have n3_:=zA ((by rw [hg];exact (zG (by repeat (first|(with_reducible first|exact HB.out|apply zD|apply zC|apply zE)|exact HB.out))):w.heap.size ≤ gb275));clear HB;have HB:=n0_;have BK275:=n1_;have GW275:=n2_;have GE275:=n3_;clear n0_ n1_ n2_ n3_;clear hb hbox hg;have hcz10_0:w9.cell? ⟨gb275,0,none⟩ = some (.slice A0_0 l0_0.length c0_0):=(zI BK275.out 0).trans rfl;have hcz10_1:w9.cell? ⟨gb275,1,none⟩ = some (.slice A0_1 l0_1.length c0_1):=(zI BK275.out 1).trans rfl;have hfz10_0:=zJ BK275.out 0;have hfz10_1:=zJ BK275.out 1)|((with_reducible refine zU (f:=50) rfl ?_);refine goesL_ (some 7) rfl rfl Tryd.func50 (by kernel_rfl) rfl #[.slice A0_0 l0_0.length c0_0] rfl (by (try simp only [zx,zy,zz]);first|done|rfl|(simp only [zd,zt];rfl)) ?_;(with_reducible refine (foretellref_variablesFault.calls k _ _ l0_0 t276 _ ?side1 ?side2 A2.out).mono ?_);(case side1=>repeat (first|exact (zT HR0_0.out HB.out)|(with_reducible refine Kd.C_alloc ?_ _)|(with_reducible refine Kd.C_drewN ?_ _)|(with_reducible refine Kd.C_drew ?_)));(case side2=>exact HC0_0.out);rintro e w11 ⟨rfl,hb⟩;refine ⟨_,rfl,?_⟩;have n0_:=zA (zN (g:=gb275) (o:=.cells #[.slice A0_0 l0_0.length c0_0,.slice A0_1 l0_1.length c0_1] 25 (0,0)) (by (with_reducible repeat (first|refine zL ?_ _|refine zM ?_|refine zK ?_ _));exact BK275.out) hb);have n1_:=zA (zH (by repeat (first|(with_reducible first|exact HB.out|apply zD|apply zC|apply zE|refine zF ?_ GE275.out)|exact HB.out)) hb);clear BK275;clear HB;have BK275:=n0_;have HB:=n1_;clear n0_ n1_;(try clear hb);(try clear hb2);(try clear hk);(try clear hi);have hcz12_0:w11.cell? ⟨gb275,0,none⟩ = some (.slice A0_0 l0_0.length c0_0):=(zI BK275.out 0).trans rfl;have hcz12_1:w11.cell? ⟨gb275,1,none⟩ = some (.slice A0_1 l0_1.length c0_1):=(zI BK275.out 1).trans rfl;have hfz12_0:=zJ BK275.out 0;have hfz12_1:=zJ BK275.out 1))
   go_loopg [3,4] k (fun kq v3 v4 w'=>∃ (x3_1:Int) (x4_1:Int),v3 = .int .i64 x3_1∧v4 = .int .i64 x4_1∧Aside0 (foretellref_ModelFault.l0 kq x3_1 x4_1 l0_0 l0_1 = some r)∧Aside0 (kq ≤ k)∧Aside0 (w'.heap[gb275]? = some (.cells #[(.slice A0_0 l0_0.length c0_0),(.slice A0_1 l0_1.length c0_1)] 25 (0,0)))∧Aside0 (Below w.heap.size w w'))
   case atStart=>exact ⟨(t276),(0),(by first|rfl|(simp;done)|(simp [*];done)),(by first|rfl|(simp;done)|(simp [*];done)),H',⟨Nat.le_refl _⟩,⟨by (with_reducible repeat (first|refine zL ?_ _|refine zM ?_|refine zK ?_ _));exact BK275.out⟩,⟨by repeat (first|(with_reducible first|exact HB.out|apply zD|apply zC|apply zE|refine zF ?_ GE275.out)|exact HB.out)⟩⟩
   case round =>
    clear H'
    try clear c1
    try clear p2
    try clear c3
    try clear c3b0
    try clear c3b1
    try clear c4
    try clear c4b0
    try clear c4b1
    try clear c5
    try clear hcz10_0
    try clear hcz10_1
    try clear hcz12_0
    try clear hcz12_1
    try clear hcz6_0
    try clear hcz6_1
    try clear hcz8_0
    try clear hcz8_1
    try clear hfz10_0
    try clear hfz10_1
    try clear hfz12_0
    try clear hfz12_1
    try clear hfz6_0
    try clear hfz6_1
    try clear hfz8_0
    try clear hfz8_1
    obtain ⟨x3_1,x4_1,rfl,rfl,HA,HK1,BK275,HB⟩:=hrel
    cases gk with
    | zero=>exact absurd HA.out (by simp [foretellref_ModelFault.l0])
    | succ k1 =>
     have H:=HA.out
     clear HA
     simp only [foretellref_ModelFault.l0] at H
     by_cases c13:x4_1 < (l0_1.length:Int)
     ·rw [if_pos c13] at H
      have c13b0:decide (x4_1 < (l0_1.length:Int)) = true:=zQ c13
      clear c13
      by_cases c14:x3_1 = 0
      ·rw [if_pos c14] at H
       have c14b0:(x3_1 == 0) = true:=beq_iff_eq.mpr c14
       have c14b1:(x3_1 != 0) = false:=bne_eq_false_iff_eq.mpr c14
       clear c14
       by_cases c15:0 ≤ x4_1
       ·rw [if_pos c15] at H
        have c15b0:decide (0 ≤ x4_1) = true:=zQ c15
        clear c15
        replace H:=zb.mp H
        obtain ⟨t278,A160,H⟩:=H
        replace H:(foretellref_ModelFault.l0 k1 t278 (wrap64 (x4_1 + 1)) l0_0 l0_1) = some r:=H
        have A16:=zA A160
        clear A160
        have H':=zA H
        clear H
        have hcz17_0:wr.cell? ⟨gb275,0,none⟩ = some (.slice A0_0 l0_0.length c0_0):=(zI BK275.out 0).trans rfl
        have hcz17_1:wr.cell? ⟨gb275,1,none⟩ = some (.slice A0_1 l0_1.length c0_1):=(zI BK275.out 1).trans rfl
        have hfz17_0:=zJ BK275.out 0
        have hfz17_1:=zJ BK275.out 1
        try go_wp2
        have n0_:=zA (zM BK275.out)
        have n1_:=zA (zE HB.out)
        clear BK275
        clear HB
        have BK275:=n0_
        have HB:=n1_
        clear n0_ n1_
        have p277:0 ≤ (x4_1:Int):=zP (by assumption)
        have q277:x4_1 < (l0_1.length:Int):=zP (by assumption)
        obtain ⟨ad277,A277_0,c277_0,A277_1,c277_1,e277,hx277_0,hx277_1,hl277_0,hi277_0,hl277_1,hi277_1⟩:=at_T68 HR0_1.out x4_1 p277 q277
        have hw277_1:=hx277_1
        have hw277_0:=hx277_0
        cases e277
        replace hx277_0:=(HB.out.cell (zB w _ hx277_0)).trans hx277_0
        replace hx277_1:=(HB.out.cell (zB w _ hx277_1)).trans hx277_1
        have HR277_0:=zA hi277_0
        have HC277_0:=zA hl277_0
        clear hi277_0 hl277_0
        have HR277_1:=zA hi277_1
        have HC277_1:=zA hl277_1
        clear hi277_1 hl277_1
        replace p277:=eq_true p277
        replace q277:=eq_true q277
        refine start_ (n:=10) (S:=fun w'=>w'.cell? ⟨gb275,0,none⟩ = some (.slice A0_0 l0_0.length c0_0)∧w'.cell? ⟨gb275,1,none⟩ = some (.slice (some ad277) l0_1.length c0_1)∧w'.cell? (ad277.add ((x4_1).toNat * 2)) = some (.slice A277_0 ((rd_T68 l0_1 x4_1).f0).length c277_0)∧w'.cell? ⟨(ad277.add ((x4_1).toNat * 2)).block,(ad277.add ((x4_1).toNat * 2)).off + 1,none⟩ = some (.slice A277_1 ((rd_T68 l0_1 x4_1).f1).length c277_1)) (ds:=[]) #[false,false,false,false,false,false,false,false,false,false] (by kernel_rfl) rfl rfl ⟨(zI BK275.out 0).trans rfl,(zI BK275.out 1).trans rfl,((HB.out.cell (zB w _ hw277_0)).trans hw277_0),((HB.out.cell (zB w _ hw277_1)).trans hw277_1)⟩ (fun hHeld=>?_);refine with_tabW foretellref_ModelFault.tab9 foretellref_ModelFault.bits9 (fun HT_ HW_=>?_)
        generalize wr.drew = w18 at BK275 HB HR277_0 HR277_1 hx277_0 hx277_1 hHeld ⊢
        refine pure_ (i:=0) (N:=some 26) (v:=?_) (a':=?_) #[true,false,false,false,false,false,false,false,false,false] rfl rfl (any_of HT_.out (by kernel_rfl)) (fun _ _ _ h=>h) (Or.inl ⟨by rfl,?_⟩) ?_ ?_
        rotate_left
        ·intro w'
         go_simp
         with_reducible rfl
        rotate_left
        ·simp only [Act.put,zX,zY,zZ,i64_w,i32_w]
         rfl
        refine pure_ (i:=2) (N:=some 28) (v:=?_) (a':=?_) #[true,false,true,false,false,false,false,false,false,false] rfl rfl (any_of HT_.out (by kernel_rfl)) (fun _ _ _ h=>h) (Or.inl ⟨by rfl,?_⟩) ?_ ?_
        rotate_left
        ·intro w'
         go_simp
         with_reducible rfl
        rotate_left
        ·simp only [Act.put,zX,zY,zZ,i64_w,i32_w]
         rfl
        refine pure_ (i:=5) (N:=some 31) (v:=?_) (a':=?_) #[true,false,true,false,false,true,false,false,false,false] rfl rfl (any_of HT_.out (by kernel_rfl)) (fun _ _ _ h=>h) (Or.inl ⟨by rfl,?_⟩) ?_ ?_
        rotate_left
        ·intro w'
         go_simp
         with_reducible rfl
        rotate_left
        ·simp only [Act.put,zX,zY,zZ,i64_w,i32_w]
         rfl
        refine take_ (i:=1) (N:=some 27) (v:=?_) (a':=?_) #[true,true,true,false,false,true,false,false,false,false] rfl rfl (take_ofW HT_.out HW_.out (by kernel_rfl)) (fun _ _ _ h=>h) (Or.inl ⟨by rfl,?_⟩) hHeld ?_ ?_
        rotate_left
        ·rintro w' ⟨s0,s1,s2,s3⟩
         go_simp
         with_reducible rfl
        rotate_left
        ·simp only [Act.put,zX,zY,zZ,i64_w,i32_w]
         rfl
        refine pure_ (i:=3) (N:=some 29) (v:=?_) (a':=?_) #[true,true,true,true,false,true,false,false,false,false] rfl rfl (any_of HT_.out (by kernel_rfl)) (fun _ _ _ h=>h) (Or.inl ⟨by rfl,?_⟩) ?_ ?_
        rotate_left
        ·intro w'
         go_simp
         with_reducible rfl
        rotate_left
        ·simp only [Act.put,zX,zY,zZ,i64_w,i32_w]
         rfl
        refine take_ (i:=4) (N:=some 30) (v:=?_) (a':=?_) #[true,true,true,true,true,true,false,false,false,false] rfl rfl (take_ofW HT_.out HW_.out (by kernel_rfl)) (fun _ _ _ h=>h) (Or.inl ⟨by rfl,?_⟩) hHeld ?_ ?_
        rotate_left
        ·rintro w' ⟨s0,s1,s2,s3⟩
         go_simp
         with_reducible rfl
        rotate_left
        ·simp only [Act.put,zX,zY,zZ,i64_w,i32_w]
         rfl
        refine take_ (i:=6) (N:=some 32) (v:=?_) (a':=?_) #[true,true,true,true,true,true,true,false,false,false] rfl rfl (take_ofW HT_.out HW_.out (by kernel_rfl)) (fun _ _ _ h=>h) (Or.inl ⟨by rfl,?_⟩) hHeld ?_ ?_
        rotate_left
        ·rintro w' ⟨s0,s1,s2,s3⟩
         go_simp
         with_reducible rfl
        rotate_left
        ·simp only [Act.put,zX,zY,zZ,i64_w,i32_w]
         rfl
        refine pure_ (i:=7) (N:=some 33) (v:=?_) (a':=?_) #[true,true,true,true,true,true,true,true,false,false] rfl rfl (any_of HT_.out (by kernel_rfl)) (fun _ _ _ h=>h) (Or.inl ⟨by rfl,?_⟩) ?_ ?_
        rotate_left
        ·intro w'
         go_simp
         with_reducible rfl
        rotate_left
        ·simp only [Act.put,zX,zY,zZ,i64_w,i32_w]
         rfl
        refine one_ (i:=8) (N:=some 34) #[true,true,true,true,true,true,true,true,true,false] rfl rfl (one_of HT_.out (by kernel_rfl)) (by decide) (fun K hK=>?_)
        refine goes_ Tryd.func51 (by kernel_rfl) rfl #[.agg #[.slice A277_0 ((rd_T68 l0_1 x4_1).f0).length c277_0,.slice A277_1 ((rd_T68 l0_1 x4_1).f1).length c277_1],.int .i64 (l0_0.length:Int)] (by rfl) rfl rfl (by (try simp only [zx,zy,zz]);first|done|rfl|(simp only [zd,zt];rfl)) ?_
        with_reducible refine (foretellref_ruleFault.calls k1 _ _ ((rd_T68 l0_1 x4_1).f0) _ _ ((rd_T68 l0_1 x4_1).f1) (l0_0.length:Int) t278 _ ?side1 ?side2 ?side3 ?side4 A16.out).mono ?_
        (case side1=>repeat (first|exact (zT HR277_0.out HB.out)|(with_reducible refine Kd.C_alloc ?_ _)|(with_reducible refine Kd.C_drewN ?_ _)|(with_reducible refine Kd.C_drew ?_)))
        (case side2=>exact HC277_0.out)
        (case side3=>repeat (first|exact (zT HR277_1.out HB.out)|(with_reducible refine Kd.C_alloc ?_ _)|(with_reducible refine Kd.C_drewN ?_ _)|(with_reducible refine Kd.C_drew ?_)))
        (case side4=>exact HC277_1.out)
        rintro e w19 ⟨rfl,hb⟩
        refine ⟨_,rfl,?_⟩
        have n0_:=zA (zN (g:=gb275) (o:=.cells #[.slice A0_0 l0_0.length c0_0,.slice (some ad277) l0_1.length c0_1] 25 (0,0)) (by (with_reducible repeat (first|refine zL ?_ _|refine zM ?_|refine zK ?_ _));exact BK275.out) hb)
        have n1_:=zA (zH (by repeat (first|(with_reducible first|exact HB.out|apply zD|apply zC|apply zE|refine zF ?_ GE275.out)|exact HB.out)) hb)
        clear BK275
        clear HB
        have BK275:=n0_
        have HB:=n1_
        clear n0_ n1_
        (try clear hb)
        (try clear hb2)
        (try clear hk)
        (try clear hi)
        refine hK.out _ _ ⟨(zI BK275.out 0).trans rfl,(zI BK275.out 1).trans rfl,((HB.out.cell (zB w _ hw277_0)).trans hw277_0),((HB.out.cell (zB w _ hw277_1)).trans hw277_1)⟩ (fun hHeld=>?_)
        clear hK K
        refine norm_ (a':=?_) ?_ ?_
        rotate_left
        ·show Act.put _ (some 34) _ = _
         simp only [Act.put,zX,zY,zZ,i64_w,i32_w]
         rfl
        refine pure_ (i:=9) (N:=some 3) (v:=?_) (a':=?_) #[true,true,true,true,true,true,true,true,true,true] rfl rfl (any_of HT_.out (by kernel_rfl)) (fun _ _ _ h=>h) (Or.inl ⟨by rfl,?_⟩) ?_ ?_
        rotate_left
        ·intro w'
         go_simp
         with_reducible rfl
        rotate_left
        ·simp only [Act.put,zX,zY,zZ,i64_w,i32_w]
         rfl
        refine done_ (done_of HT_.out (by kernel_rfl)) ?_
        try go_wp2
        go_roundg k1
        case measure=>have:=HK1.out;omega
        case rel=>exact ⟨(t278),(wrap64 (x4_1 + 1)),(by first|rfl|(simp;done)|(simp [*];done)),(by first|rfl|(simp;done)|(simp [*];done)),H',⟨by have:=HK1.out;omega⟩,⟨by (with_reducible repeat (first|refine zL ?_ _|refine zM ?_|refine zK ?_ _));exact BK275.out⟩,⟨by repeat (first|(with_reducible first|exact HB.out|apply zD|apply zC|apply zE|refine zF ?_ GE275.out)|exact HB.out)⟩⟩
       ·rw [if_neg c15] at H
        exact absurd H (by simp)
      ·rw [if_neg c14] at H
       have c14b0:(x3_1 == 0) = false:=beq_eq_false_iff_ne.mpr c14
       have c14b1:(x3_1 != 0) = true:=bne_iff_ne.mpr c14
       obtain rfl:=Option.some.inj H
       have hcz20_0:wr.cell? ⟨gb275,0,none⟩ = some (.slice A0_0 l0_0.length c0_0):=(zI BK275.out 0).trans rfl
       have hcz20_1:wr.cell? ⟨gb275,1,none⟩ = some (.slice A0_1 l0_1.length c0_1):=(zI BK275.out 1).trans rfl
       have hfz20_0:=zJ BK275.out 0
       have hfz20_1:=zJ BK275.out 1
       go_wp2
       go_ret
       exact ⟨by first|rfl|(simp [errW_none,errW_some] <;> rfl)|(simp [*,errW_none,errW_some] <;> rfl),by repeat (first|(with_reducible first|exact HB.out|apply zD|apply zC|apply zE|refine zF ?_ GE275.out)|exact HB.out)⟩
     ·rw [if_neg c13] at H
      have c13b0:decide (x4_1 < (l0_1.length:Int)) = false:=zR c13
      clear c13
      obtain rfl:=Option.some.inj H
      have hcz21_0:wr.cell? ⟨gb275,0,none⟩ = some (.slice A0_0 l0_0.length c0_0):=(zI BK275.out 0).trans rfl
      have hcz21_1:wr.cell? ⟨gb275,1,none⟩ = some (.slice A0_1 l0_1.length c0_1):=(zI BK275.out 1).trans rfl
      have hfz21_0:=zJ BK275.out 0
      have hfz21_1:=zJ BK275.out 1
      go_wp2
      go_ret
      exact ⟨by first|rfl|(simp [errW_none,errW_some] <;> rfl)|(simp [*,errW_none,errW_some] <;> rfl),by repeat (first|(with_reducible first|exact HB.out|apply zD|apply zC|apply zE|refine zF ?_ GE275.out)|exact HB.out)⟩
 ·rw [if_neg c3] at H
  have c3b0:(t276 == 0) = false:=beq_eq_false_iff_ne.mpr c3
  have c3b1:(t276 != 0) = true:=bne_iff_ne.mpr c3
  obtain rfl:=Option.some.inj H
  go_enter Tryd.func17,Tryd.ntmps17
  go_wp2_with (first|((with_reducible refine zV (N:=1) rfl ?_);refine zW ?hg (N:=1) ?hd (cs:=#[.slice A0_0 l0_0.length c0_0,.slice A0_1 l0_1.length c0_1]) (t:=25) ?hr ?_;(case hd=>rfl);(case hg=>rfl);(case hr=>first|(go_simp;done)|(go_simp;rfl));intro gb275 hg w22 hbox hb;have n0_:=zA (zH (by repeat (first|(with_reducible first|exact HB.out|apply zD|apply zC|apply zE)|exact HB.out)) hb);have n1_:=zA (hbox);have n2_:=zA ((by rw [hg];exact (zG (by repeat (first|(with_reducible first|exact HB.out|apply zD|apply zC|apply zE)|exact HB.out))):w.heap.size ≤ gb275));have n3_:=zA ((by rw [hg];exact (zG (by repeat (first|(with_reducible first|exact HB.out|apply zD|apply zC|apply zE)|exact HB.out))):w.heap.size ≤ gb275));clear HB;have HB:=n0_;have BK275:=n1_;have GW275:=n2_;have GE275:=n3_;clear n0_ n1_ n2_ n3_;clear hb hbox hg;have hcz23_0:w22.cell? ⟨gb275,0,none⟩ = some (.slice A0_0 l0_0.length c0_0):=(zI BK275.out 0).trans rfl;have hcz23_1:w22.cell? ⟨gb275,1,none⟩ = some (.slice A0_1 l0_1.length c0_1):=(zI BK275.out 1).trans rfl;have hfz23_0:=zJ BK275.out 0;have hfz23_1:=zJ BK275.out 1)|((with_reducible refine zU (f:=50) rfl ?_);refine goesL_ (some 7) rfl rfl Tryd.func50 (by kernel_rfl) rfl #[.slice A0_0 l0_0.length c0_0] rfl (by (try simp only [zx,zy,zz]);first|done|rfl|(simp only [zd,zt];rfl)) ?_;(with_reducible refine (foretellref_variablesFault.calls k _ _ l0_0 t276 _ ?side1 ?side2 A2.out).mono ?_);(case side1=>repeat (first|exact (zT HR0_0.out HB.out)|(with_reducible refine Kd.C_alloc ?_ _)|(with_reducible refine Kd.C_drewN ?_ _)|(with_reducible refine Kd.C_drew ?_)));(case side2=>exact HC0_0.out);rintro e w24 ⟨rfl,hb⟩;refine ⟨_,rfl,?_⟩;have n0_:=zA (zN (g:=gb275) (o:=.cells #[.slice A0_0 l0_0.length c0_0,.slice A0_1 l0_1.length c0_1] 25 (0,0)) (by (with_reducible repeat (first|refine zL ?_ _|refine zM ?_|refine zK ?_ _));exact BK275.out) hb);have n1_:=zA (zH (by repeat (first|(with_reducible first|exact HB.out|apply zD|apply zC|apply zE|refine zF ?_ GE275.out)|exact HB.out)) hb);clear BK275;clear HB;have BK275:=n0_;have HB:=n1_;clear n0_ n1_;(try clear hb);(try clear hb2);(try clear hk);(try clear hi)))
  go_ret
  exact ⟨by first|rfl|(simp [errW_none,errW_some] <;> rfl)|(simp [*,errW_none,errW_some] <;> rfl),by repeat (first|(with_reducible first|exact HB.out|apply zD|apply zC|apply zE|refine zF ?_ GE275.out)|exact HB.out)⟩
def foretellref_behindVar.l0:Nat → Int → Int → List (S74) → List (S68) → Option (Int)
 | 0,_,_,_,_=>none
 | k + 1,x5,x6,x284000,x284001=>if x6 < (x284000.length:Int) then (if 0 ≤ x6 then (foretellref_behindVar.l0 k (wrap64 (x5 * (wrap64 ((wrap64 (((rd_T74 x284000 x6).f2) - ((rd_T74 x284000 x6).f1))) + 1)))) (wrap64 (x6 + 1)) x284000 x284001) else (none)) else (some x5)
def foretellref_behindVar.f (k:Nat) (l0_0:List (S74)) (l0_1:List (S68)) (a1:Int):Option (Int):=foretellref_behindVar.l0 k 1 (wrap64 (a1 + 1)) l0_0 l0_1
theorem foretellref_behindVar.mono_l:∀ k,(∀ y0 y1 y2 y3,LeO (foretellref_behindVar.l0 k y0 y1 y2 y3) (foretellref_behindVar.l0 (k + 1) y0 y1 y2 y3))
 | 0=>fun _ _ _ _ r h=>by simp [foretellref_behindVar.l0] at h
 | k + 1=>by
  have ih0:=foretellref_behindVar.mono_l k
  ·intro y0 y1 y2 y3
   unfold foretellref_behindVar.l0
   repeat' first
   | (with_reducible exact ih0 _ _ _ _)
   | (with_reducible exact LeO.refl _)
   | (with_reducible exact LeO.none _)
   | (with_reducible refine LeO.ite ?_ ?_)
   | (with_reducible refine LeO.bind ?_ (fun _=>?_))
   | exact ih0 _ _ _ _
   | exact LeO.none _
   | refine LeO.ite ?_ ?_
   | refine LeO.bind ?_ (fun _=>?_)
theorem foretellref_behindVar.mono:∀ a0 a1 a2 k,LeO (foretellref_behindVar.f k a0 a1 a2) (foretellref_behindVar.f (k + 1) a0 a1 a2):=by
 intro a0 a1 a2 k
 have ih0:=foretellref_behindVar.mono_l k
 unfold foretellref_behindVar.f
 repeat' first
   | (with_reducible exact ih0 _ _ _ _)
   | (with_reducible exact LeO.refl _)
   | (with_reducible exact LeO.none _)
   | (with_reducible refine LeO.ite ?_ ?_)
   | (with_reducible refine LeO.bind ?_ (fun _=>?_))
   | exact ih0 _ _ _ _
   | exact LeO.none _
   | refine LeO.ite ?_ ?_
   | refine LeO.bind ?_ (fun _=>?_)
set_option maxHeartbeats 8000000 in
set_option maxRecDepth 100000 in
theorem foretellref_behindVar.calls (k:Nat) (A0_0:Option Addr) (c0_0:Nat) (l0_0:List (S74)) (A0_1:Option Addr) (c0_1:Nat) (l0_1:List (S68)) (a1:Int) (r:Int) (w:World) (hr0_0:Kd.C k74 w A0_0 l0_0.length l0_0) (hc0_0:l0_0.length ≤ c0_0) (hr0_1:Kd.C k68 w A0_1 l0_1.length l0_1) (hc0_1:l0_1.length ≤ c0_1) (h:foretellref_behindVar.f k l0_0 l0_1 a1 = some r) :
  Calls Tryd.prog 53 #[.agg #[.slice A0_0 l0_0.length c0_0,.slice A0_1 l0_1.length c0_1],.int .i64 a1] w fun e w'=>e = .returned (.int .i64 r)∧Below w.heap.size w w':=by
 have hu25:=Tryd.underlying25
 have HR0_0:=zA hr0_0
 have HC0_0:=zA hc0_0
 clear hr0_0 hc0_0
 have HR0_1:=zA hr0_1
 have HC0_1:=zA hc0_1
 clear hr0_1 hc0_1
 have HB:=zA (Below.refl w.heap.size w)
 have H:(foretellref_behindVar.l0 k 1 (wrap64 (a1 + 1)) l0_0 l0_1) = some r:=h
 clear h
 have H':=zA H
 clear H
 go_enter Tryd.func53,Tryd.ntmps53
 go_wp2_with (first|((with_reducible refine zV (N:=2) rfl ?_);refine zW ?hg (N:=2) ?hd (cs:=#[.slice A0_0 l0_0.length c0_0,.slice A0_1 l0_1.length c0_1]) (t:=25) ?hr ?_;(case hd=>rfl);(case hg=>rfl);(case hr=>first|(go_simp;done)|(go_simp;rfl));intro gb283 hg w3 hbox hb;have n0_:=zA (zH (by repeat (first|(with_reducible first|exact HB.out|apply zD|apply zC|apply zE)|exact HB.out)) hb);have n1_:=zA (hbox);have n2_:=zA ((by rw [hg];exact (zG (by repeat (first|(with_reducible first|exact HB.out|apply zD|apply zC|apply zE)|exact HB.out))):w.heap.size ≤ gb283));have n3_:=zA ((by rw [hg];exact (zG (by repeat (first|(with_reducible first|exact HB.out|apply zD|apply zC|apply zE)|exact HB.out))):w.heap.size ≤ gb283));clear HB;have HB:=n0_;have BK283:=n1_;have GW283:=n2_;have GE283:=n3_;clear n0_ n1_ n2_ n3_;clear hb hbox hg))
 repeat (go_quiet (first|((with_reducible refine zV (N:=2) rfl ?_);refine zW ?hg (N:=2) ?hd (cs:=#[.slice A0_0 l0_0.length c0_0,.slice A0_1 l0_1.length c0_1]) (t:=25) ?hr ?_;(case hd=>rfl);(case hg=>rfl);(case hr=>first|(go_simp;done)|(go_simp;rfl));intro gb283 hg w3 hbox hb;have n0_:=zA (zH (by repeat (first|(with_reducible first|exact HB.out|apply zD|apply zC|apply zE)|exact HB.out)) hb);have n1_:=zA (hbox);have n2_:=zA ((by rw [hg];exact (zG (by repeat (first|(with_reducible first|exact HB.out|apply zD|apply zC|apply zE)|exact HB.out))):w.heap.size ≤ gb283));have n3_:=zA ((by rw [hg];exact (zG (by repeat (first|(with_reducible first|exact HB.out|apply zD|apply zC|apply zE)|exact HB.out))):w.heap.size ≤ gb283));clear HB;have HB:=n0_;have BK283:=n1_;have GW283:=n2_;have GE283:=n3_;clear n0_ n1_ n2_ n3_;clear hb hbox hg));try go_wp2_with (first|((with_reducible refine zV (N:=2) rfl ?_);refine zW ?hg (N:=2) ?hd (cs:=#[.slice A0_0 l0_0.length c0_0,.slice A0_1 l0_1.length c0_1]) (t:=25) ?hr ?_;(case hd=>rfl);(case hg=>rfl);(case hr=>first|(go_simp;done)|(go_simp;rfl));intro gb283 hg w3 hbox hb;have n0_:=zA (zH (by repeat (first|(with_reducible first|exact HB.out|apply zD|apply zC|apply zE)|exact HB.out)) hb);have n1_:=zA (hbox);have n2_:=zA ((by rw [hg];exact (zG (by repeat (first|(with_reducible first|exact HB.out|apply zD|apply zC|apply zE)|exact HB.out))):w.heap.size ≤ gb283));have n3_:=zA ((by rw [hg];exact (zG (by repeat (first|(with_reducible first|exact HB.out|apply zD|apply zC|apply zE)|exact HB.out))):w.heap.size ≤ gb283));clear HB;have HB:=n0_;have BK283:=n1_;have GW283:=n2_;have GE283:=n3_;clear n0_ n1_ n2_ n3_;clear hb hbox hg)))
 go_loopg [5,6] k (fun kq v5 v6 w'=>∃ (x5_1:Int) (x6_1:Int),v5 = .int .i64 x5_1∧v6 = .int .i64 x6_1∧Aside0 (foretellref_behindVar.l0 kq x5_1 x6_1 l0_0 l0_1 = some r)∧Aside0 (kq ≤ k)∧Aside0 (w'.heap[gb283]? = some (.cells #[(.slice A0_0 l0_0.length c0_0),(.slice A0_1 l0_1.length c0_1)] 25 (0,0)))∧Aside0 (Below w.heap.size w w'))
 case atStart=>exact ⟨(1),(wrap64 (a1 + 1)),(by first|rfl|(simp;done)|(simp [*];done)),(by first|rfl|(simp;done)|(simp [*];done)),H',⟨Nat.le_refl _⟩,⟨by (with_reducible repeat (first|refine zL ?_ _|refine zM ?_|refine zK ?_ _));exact BK283.out⟩,⟨by repeat (first|(with_reducible first|exact HB.out|apply zD|apply zC|apply zE|refine zF ?_ GE283.out)|exact HB.out)⟩⟩
 case round =>
  clear H'
  try clear p2
  obtain ⟨x5_1,x6_1,rfl,rfl,HA,HK1,BK283,HB⟩:=hrel
  cases gk with
  | zero=>exact absurd HA.out (by simp [foretellref_behindVar.l0])
  | succ k1 =>
   have H:=HA.out
   clear HA
   simp only [foretellref_behindVar.l0] at H
   by_cases c4:x6_1 < (l0_0.length:Int)
   ·rw [if_pos c4] at H
    have c4b0:decide (x6_1 < (l0_0.length:Int)) = true:=zQ c4
    clear c4
    by_cases c5:0 ≤ x6_1
    ·rw [if_pos c5] at H
     have c5b0:decide (0 ≤ x6_1) = true:=zQ c5
     clear c5
     have H':=zA H
     clear H
     have hcz6_0:wr.cell? ⟨gb283,0,none⟩ = some (.slice A0_0 l0_0.length c0_0):=(zI BK283.out 0).trans rfl
     have hcz6_1:wr.cell? ⟨gb283,1,none⟩ = some (.slice A0_1 l0_1.length c0_1):=(zI BK283.out 1).trans rfl
     have hfz6_0:=zJ BK283.out 0
     have hfz6_1:=zJ BK283.out 1
     have p284:0 ≤ (x6_1:Int):=zP (by assumption)
     have q284:x6_1 < (l0_0.length:Int):=zP (by assumption)
     obtain ⟨ad284,e284,hx284_0,hx284_1,hx284_2,hx284_3⟩:=at_T74 HR0_0.out x6_1 p284 q284
     cases e284
     replace hx284_0:=(HB.out.cell (zB w _ hx284_0)).trans hx284_0
     replace hx284_1:=(HB.out.cell (zB w _ hx284_1)).trans hx284_1
     replace hx284_2:=(HB.out.cell (zB w _ hx284_2)).trans hx284_2
     replace hx284_3:=(HB.out.cell (zB w _ hx284_3)).trans hx284_3
     replace p284:=eq_true p284
     replace q284:=eq_true q284
     have p285:0 ≤ (x6_1:Int):=zP (by assumption)
     have q285:x6_1 < (l0_0.length:Int):=zP (by assumption)
     obtain ⟨ad285,e285,hx285_0,hx285_1,hx285_2,hx285_3⟩:=at_T74 HR0_0.out x6_1 p285 q285
     obtain rfl:ad284 = ad285:=(by injection e285)
     replace hx285_0:=(HB.out.cell (zB w _ hx285_0)).trans hx285_0
     replace hx285_1:=(HB.out.cell (zB w _ hx285_1)).trans hx285_1
     replace hx285_2:=(HB.out.cell (zB w _ hx285_2)).trans hx285_2
     replace hx285_3:=(HB.out.cell (zB w _ hx285_3)).trans hx285_3
     replace p285:=eq_true p285
     replace q285:=eq_true q285
     go_wp2
     repeat (go_quiet (fail);try go_wp2)
     go_roundg k1
     case measure=>have:=HK1.out;omega
     case rel=>exact ⟨(wrap64 (x5_1 * (wrap64 ((wrap64 (((rd_T74 l0_0 x6_1).f2) - ((rd_T74 l0_0 x6_1).f1))) + 1)))),(wrap64 (x6_1 + 1)),(by first|rfl|(simp;done)|(simp [*];done)),(by first|rfl|(simp;done)|(simp [*];done)),H',⟨by have:=HK1.out;omega⟩,⟨by (with_reducible repeat (first|refine zL ?_ _|refine zM ?_|refine zK ?_ _));exact BK283.out⟩,⟨by repeat (first|(with_reducible first|exact HB.out|apply zD|apply zC|apply zE|refine zF ?_ GE283.out)|exact HB.out)⟩⟩
    ·rw [if_neg c5] at H
     exact absurd H (by simp)
   ·rw [if_neg c4] at H
    have c4b0:decide (x6_1 < (l0_0.length:Int)) = false:=zR c4
    clear c4
    obtain rfl:=Option.some.inj H
    have hcz7_0:wr.cell? ⟨gb283,0,none⟩ = some (.slice A0_0 l0_0.length c0_0):=(zI BK283.out 0).trans rfl
    have hcz7_1:wr.cell? ⟨gb283,1,none⟩ = some (.slice A0_1 l0_1.length c0_1):=(zI BK283.out 1).trans rfl
    have hfz7_0:=zJ BK283.out 0
    have hfz7_1:=zJ BK283.out 1
    go_wp2
    repeat (go_quiet (fail);try go_wp2)
    go_ret
    exact ⟨by first|rfl|(simp [errW_none,errW_some] <;> rfl)|(simp [*,errW_none,errW_some] <;> rfl),by repeat (first|(with_reducible first|exact HB.out|apply zD|apply zC|apply zE|refine zF ?_ GE283.out)|exact HB.out)⟩
end Go.Proofs.YtkpddelnkjjflaaDoor.M
