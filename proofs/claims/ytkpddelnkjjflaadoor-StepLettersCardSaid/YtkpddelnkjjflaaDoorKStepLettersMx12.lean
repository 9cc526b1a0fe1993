-- Cut by a program of this session (wip/prune.py) from a longer text: declarations that the law does not need are left out.
import Derived.Test.YtkpddelnkjjflaaDoorKStepLettersMx0
import Derived.Test.YtkpddelnkjjflaaDoorKStepLettersMx1
import Derived.Test.YtkpddelnkjjflaaDoorKStepLettersMx7
import Derived.Test.YtkpddelnkjjflaaDoorKStepLettersMx10
import Derived.Test.YtkpddelnkjjflaaDoorKStepLettersMx11
namespace Go.Proofs.YtkpddelnkjjflaaDoor.M
open Go.Proofs.YtkpddelnkjjflaaDoor.Al
open Go.World renaming block_lt_of_cell? → zB
open Option renaming bind_eq_some_iff → zb
open List renaming map_toArray → zx, map_cons → zy, map_nil → zz, length_drop → zd, length_take → zt
open Go.Proofs.YtkpddelnkjjflaaDoorW.PrintWords renaming pw_below_drewN → zC, below_alloc → zD, below_drew1 → zE, below_set → zF, below_size → zG, below_step → zH, blk_cell → zI, blk_frozen → zJ, blk_alloc → zK, blk_drewN → zL, blk_drew → zM, blk_below → zN, Kd.C_below → zT, gate_callee → zU, gate_dst → zV, box_event → zW
open Go.RowKit Go.Proofs.YtkpddelnkjjflaaDoorW.PrintWords Go.Proofs.YtkpddelnkjjflaaDoorW.PrintLast Go.Proofs.YtkpddelnkjjflaaDoorW.PrintMore
attribute [local go_sem] max2_int min2_int max_two min_two max_three min_three max_four min_four
set_option linter.unusedVariables false
set_option linter.unusedSimpArgs false
def foretellref_LetterOf.l0:Nat → List (List (S94)) → List Int → List Bool → Int → Option (List Bool × Int)
 | 0,_,_,_,_=>none
 | k + 1,x1,x9,x10,x11=>if x11 < (x1.length:Int) then (if 0 ≤ x11 then ((foretellref_Evaluated.f k (rd_L4 x1 x11) x9).bind fun bt343=>(if bt343.2 = 0 then (if x10.length < 140737488355328 then (foretellref_LetterOf.l0 k x1 x9 (x10 ++ [(bt343.1 == 1)]) (wrap64 (x11 + 1))) else (none)) else (if x10.length < 140737488355328 then (foretellref_LetterOf.l0 k x1 x9 (x10 ++ [false]) (wrap64 (x11 + 1))) else (none)))) else (none)) else (some (x10,0))
def foretellref_LetterOf.f (k:Nat) (l0_0:List (S74)) (l0_1:List (S68)) (l1:List (List (S94))) (a2:Int):Option (List Bool × Int):=(foretellref_PropsFault.f k l0_0 l0_1 l1).bind fun t337=>(if t337 = 0 then ((foretellref_ValuesOf.f k l0_0 l0_1 a2).bind fun bt338=>(if bt338.2 = 0 then (foretellref_LetterOf.l0 k l1 bt338.1 ([]:List Bool) 0) else (some (([]:List Bool),bt338.2)))) else (some (([]:List Bool),t337)))
theorem foretellref_LetterOf.mono_l:∀ k,(∀ y0 y1 y2 y3,LeO (foretellref_LetterOf.l0 k y0 y1 y2 y3) (foretellref_LetterOf.l0 (k + 1) y0 y1 y2 y3))
 | 0=>fun _ _ _ _ r h=>by simp [foretellref_LetterOf.l0] at h
 | k + 1=>by
  have ih0:=foretellref_LetterOf.mono_l k
  ·intro y0 y1 y2 y3
   unfold foretellref_LetterOf.l0
   repeat' first
   | (with_reducible exact ih0 _ _ _ _)
   | (with_reducible exact foretellref_Evaluated.mono _ _ _)
   | (with_reducible exact foretellref_PropsFault.mono _ _ _ _)
   | (with_reducible exact foretellref_ValuesOf.mono _ _ _ _)
   | (with_reducible exact LeO.refl _)
   | (with_reducible exact LeO.none _)
   | (with_reducible refine LeO.ite ?_ ?_)
   | (with_reducible refine LeO.bind ?_ (fun _=>?_))
   | exact ih0 _ _ _ _
   | exact foretellref_Evaluated.mono _ _ _
   | exact foretellref_PropsFault.mono _ _ _ _
   | exact foretellref_ValuesOf.mono _ _ _ _
   | exact LeO.none _
   | refine LeO.ite ?_ ?_
   | refine LeO.bind ?_ (fun _=>?_)
theorem foretellref_LetterOf.mono:∀ a0 a1 a2 a3 k,LeO (foretellref_LetterOf.f k a0 a1 a2 a3) (foretellref_LetterOf.f (k + 1) a0 a1 a2 a3):=by
 intro a0 a1 a2 a3 k
 have ih0:=foretellref_LetterOf.mono_l k
 unfold foretellref_LetterOf.f
 repeat' first
   | (with_reducible exact ih0 _ _ _ _)
   | (with_reducible exact foretellref_Evaluated.mono _ _ _)
   | (with_reducible exact foretellref_PropsFault.mono _ _ _ _)
   | (with_reducible exact foretellref_ValuesOf.mono _ _ _ _)
   | (with_reducible exact LeO.refl _)
   | (with_reducible exact LeO.none _)
   | (with_reducible refine LeO.ite ?_ ?_)
   | (with_reducible refine LeO.bind ?_ (fun _=>?_))
   | exact ih0 _ _ _ _
   | exact foretellref_Evaluated.mono _ _ _
   | exact foretellref_PropsFault.mono _ _ _ _
   | exact foretellref_ValuesOf.mono _ _ _ _
   | exact LeO.none _
   | refine LeO.ite ?_ ?_
   | refine LeO.bind ?_ (fun _=>?_)
set_option maxHeartbeats 8000000 in
set_option maxRecDepth 100000 in
theorem foretellref_LetterOf.calls (k:Nat) (A0_0:Option Addr) (c0_0:Nat) (l0_0:List (S74)) (A0_1:Option Addr) (c0_1:Nat) (l0_1:List (S68)) (A1:Option Addr) (c1:Nat) (l1:List (List (S94))) (a2:Int) (r1:List Bool) (r2:Int) (w:World) (hr0_0:Kd.C k74 w A0_0 l0_0.length l0_0) (hc0_0:l0_0.length ≤ c0_0) (hr0_1:Kd.C k68 w A0_1 l0_1.length l0_1) (hc0_1:l0_1.length ≤ c0_1) (hr1:Kd.C (Kd.slice 94 k94) w A1 l1.length l1) (hc1:l1.length ≤ c1) (h:foretellref_LetterOf.f k l0_0 l0_1 l1 a2 = some (r1,r2)) :
  Calls Tryd.prog 37 #[.agg #[.slice A0_0 l0_0.length c0_0,.slice A0_1 l0_1.length c0_1],.slice A1 l1.length c1,.int .i64 a2] w fun e w'=>∃ v0_:Value,e = .returned (.tuple #[v0_,.int .i64 r2])∧Kd.R Kd.bool 4 w' w.heap.size (fun _=>True) v0_ r1∧Below w.heap.size w w':=by
 have hu25:=Tryd.underlying25
 have HR0_0:=zA hr0_0
 have HC0_0:=zA hc0_0
 clear hr0_0 hc0_0
 have HR0_1:=zA hr0_1
 have HC0_1:=zA hc0_1
 clear hr0_1 hc0_1
 have HR1:=zA hr1
 have HC1:=zA hc1
 clear hr1 hc1
 have HB:=zA (Below.refl w.heap.size w)
 have H:((foretellref_PropsFault.f k l0_0 l0_1 l1).bind fun t337=>(if t337 = 0 then ((foretellref_ValuesOf.f k l0_0 l0_1 a2).bind fun bt338=>(if bt338.2 = 0 then (foretellref_LetterOf.l0 k l1 bt338.1 ([]:List Bool) 0) else (some (([]:List Bool),bt338.2)))) else (some (([]:List Bool),t337)))) = some (r1,r2):=h
 clear h
 replace H:=zb.mp H
 obtain ⟨t337,A40,H⟩:=H
 replace H:(if t337 = 0 then ((foretellref_ValuesOf.f k l0_0 l0_1 a2).bind fun bt338=>(if bt338.2 = 0 then (foretellref_LetterOf.l0 k l1 bt338.1 ([]:List Bool) 0) else (some (([]:List Bool),bt338.2)))) else (some (([]:List Bool),t337))) = some (r1,r2):=H
 have A4:=zA A40
 clear A40
 by_cases c5:t337 = 0
 ·rw [if_pos c5] at H
  have c5b0:(t337 == 0) = true:=beq_iff_eq.mpr c5
  have c5b1:(t337 != 0) = false:=bne_eq_false_iff_eq.mpr c5
  clear c5
  replace H:=zb.mp H
  obtain ⟨⟨t338,t341⟩,A60,H⟩:=H
  replace H:(if t341 = 0 then (foretellref_LetterOf.l0 k l1 t338 ([]:List Bool) 0) else (some (([]:List Bool),t341))) = some (r1,r2):=H
  have A6:=zA A60
  clear A60
  by_cases c7:t341 = 0
  ·rw [if_pos c7] at H
   have c7b0:(t341 == 0) = true:=beq_iff_eq.mpr c7
   have c7b1:(t341 != 0) = false:=bne_eq_false_iff_eq.mpr c7
   clear c7
   have H':=zA H
   clear H
   go_enter Tryd.func37,Tryd.ntmps37
   go_wp2_with (first|((with_reducible refine zV (N:=3) rfl ?_);refine zW ?hg (N:=3) ?hd (cs:=#[.slice A0_0 l0_0.length c0_0,.slice A0_1 l0_1.length c0_1]) (t:=25) ?hr ?_;(case hd=>rfl);(case hg=>rfl);(case hr=>first|(go_simp;done)|(go_simp;rfl));intro gb336 hg w8 hbox hb;have n0_:=zA (zH (by repeat (first|(with_reducible first|exact HB.out|apply zD|apply zC|apply zE)|exact HB.out)) hb);have n1_:=zA (hbox);have n2_:=zA ((by rw [hg];exact (zG (by repeat (first|(with_reducible first|exact HB.out|apply zD|apply zC|apply zE)|exact HB.out))):w.heap.size ≤ gb336));have n3_:=zA ((by rw [hg];exact (zG (by repeat (first|(with_reducible first|exact HB.out|apply zD|apply zC|apply zE)|exact HB.out))):w.heap.size ≤ gb336));clear HB;have HB:=n0_;have BK336:=n1_;have GW336:=n2_;have GE336:=n3_;clear n0_ n1_ n2_ n3_;clear hb hbox hg;have hcz9_0:w8.cell? ⟨gb336,0,none⟩ = some (.slice A0_0 l0_0.length c0_0):=(zI BK336.out 0).trans rfl;have hcz9_1:w8.cell? ⟨gb336,1,none⟩ = some (.slice A0_1 l0_1.length c0_1):=(zI BK336.out 1).trans rfl;have hfz9_0:=zJ BK336.out 0;have hfz9_1:=zJ BK336.out 1)|((with_reducible refine zU (f:=23) rfl ?_);refine goesL_ (some 16) rfl rfl Tryd.func23 (by kernel_rfl) rfl #[.agg #[.slice A0_0 l0_0.length c0_0,.slice A0_1 l0_1.length c0_1],.slice A1 l1.length c1] rfl (by (try simp only [zx,zy,zz]);first|done|rfl|(simp only [zd,zt];rfl)) ?_;(with_reducible refine (foretellref_PropsFault.calls k _ _ l0_0 _ _ l0_1 _ _ l1 t337 _ ?side1 ?side2 ?side3 ?side4 ?side5 ?side6 A4.out).mono ?_);(case side1=>repeat (first|exact (zT HR0_0.out HB.out)|(with_reducible refine Kd.C_alloc ?_ _)|(with_reducible refine Kd.C_drewN ?_ _)|(with_reducible refine Kd.C_drew ?_)));(case side2=>exact HC0_0.out);(case side3=>repeat (first|exact (zT HR0_1.out HB.out)|(with_reducible refine Kd.C_alloc ?_ _)|(with_reducible refine Kd.C_drewN ?_ _)|(with_reducible refine Kd.C_drew ?_)));(case side4=>exact HC0_1.out);(case side5=>repeat (first|exact (zT HR1.out HB.out)|(with_reducible refine Kd.C_alloc ?_ _)|(with_reducible refine Kd.C_drewN ?_ _)|(with_reducible refine Kd.C_drew ?_)));(case side6=>exact HC1.out);rintro e w10 ⟨rfl,hb⟩;refine ⟨_,rfl,?_⟩;have n0_:=zA (zN (g:=gb336) (o:=.cells #[.slice A0_0 l0_0.length c0_0,.slice A0_1 l0_1.length c0_1] 25 (0,0)) (by (with_reducible repeat (first|refine zL ?_ _|refine zM ?_|refine zK ?_ _));exact BK336.out) hb);have n1_:=zA (zH (by repeat (first|(with_reducible first|exact HB.out|apply zD|apply zC|apply zE|refine zF ?_ GE336.out)|exact HB.out)) hb);clear BK336;clear HB;have BK336:=n0_;have HB:=n1_;clear n0_ n1_;(try clear hb);(try clear hb2);(try clear hk);(try clear hi);have hcz11_0:w10.cell? ⟨gb336,0,none⟩ = some (.slice A0_0 l0_0.length c0_0):=(zI BK336.out 0).trans rfl;have hcz11_1:w10.cell? ⟨gb336,1,none⟩ = some (.slice A0_1 l0_1.length c0_1):=(zI BK336.out 1).trans rfl;have hfz11_0:=zJ BK336.out 0;have hfz11_1:=zJ BK336.out 1)|((with_reducible refine zU (f:=31) rfl ?_);refine goesL_ (some 23) rfl rfl Tryd.func31 (by kernel_rfl) rfl #[.agg #[.slice A0_0 l0_0.length c0_0,.slice A0_1 l0_1.length c0_1],.int .i64 a2] rfl (by (try simp only [zx,zy,zz]);first|done|rfl|(simp only [zd,zt];rfl)) ?_;(with_reducible refine (foretellref_ValuesOf.calls k _ _ l0_0 _ _ l0_1 a2 t338 t341 _ ?side1 ?side2 ?side3 ?side4 A6.out).mono ?_);(case side1=>repeat (first|exact (zT HR0_0.out HB.out)|(with_reducible refine Kd.C_alloc ?_ _)|(with_reducible refine Kd.C_drewN ?_ _)|(with_reducible refine Kd.C_drew ?_)));(case side2=>exact HC0_0.out);(case side3=>repeat (first|exact (zT HR0_1.out HB.out)|(with_reducible refine Kd.C_alloc ?_ _)|(with_reducible refine Kd.C_drewN ?_ _)|(with_reducible refine Kd.C_drew ?_)));(case side4=>exact HC0_1.out);rintro e w12 ⟨v339,rfl,ho0,hb⟩;refine ⟨_,rfl,?_⟩;have n0_:=zA (Kd.R_lower ho0 (zG (by repeat (first|(with_reducible first|exact HB.out|apply zD|apply zC|apply zE|refine zF ?_ GE336.out)|exact HB.out))));have n1_:=zA (zN (g:=gb336) (o:=.cells #[.slice A0_0 l0_0.length c0_0,.slice A0_1 l0_1.length c0_1] 25 (0,0)) (by (with_reducible repeat (first|refine zL ?_ _|refine zM ?_|refine zK ?_ _));exact BK336.out) hb);have n2_:=zA (zH (by repeat (first|(with_reducible first|exact HB.out|apply zD|apply zC|apply zE|refine zF ?_ GE336.out)|exact HB.out)) hb);clear BK336;clear HB;have HO340:=n0_;have BK336:=n1_;have HB:=n2_;clear n0_ n1_ n2_;(try clear hb);(try clear hb2);(try clear hk);(try clear hi);(try clear ho0)))
   go_loopg [10,11] k (fun kq v10 v11 w'=>∃ (x10_1:List Bool) (x11_1:Int),v11 = .int .i64 x11_1∧Aside0 (foretellref_LetterOf.l0 kq l1 t338 x10_1 x11_1 = some (r1,r2))∧Aside0 (kq ≤ k)∧Aside0 (Kd.R (Kd.int .i64) 3 w' w.heap.size (fun _=>True) v339 t338)∧Aside0 (Kd.R Kd.bool 4 w' w.heap.size (fun _=>True) v10 x10_1)∧Aside0 (w'.heap[gb336]? = some (.cells #[(.slice A0_0 l0_0.length c0_0),(.slice A0_1 l0_1.length c0_1)] 25 (0,0)))∧Aside0 (Below w.heap.size w w'))
   case atStart=>exact ⟨(([]:List Bool)),(0),(by first|rfl|(simp;done)|(simp [*];done)),H',⟨Nat.le_refl _⟩,⟨by (with_reducible repeat (first|apply Kd.R_alloc|apply Kd.R_drewN|apply Kd.R_drew));exact HO340.out⟩,⟨by first|exact Kd.R_nil _ _ _ _ _|exact Kd.N_nil _ _ _ _ _|exact Kd.V_nil _ _ _ _ _|exact Kd.Q_nil _ _ _ _ _|exact Kd.S_nil _ _ _ _ _⟩,⟨by (with_reducible repeat (first|refine zL ?_ _|refine zM ?_|refine zK ?_ _));exact BK336.out⟩,⟨by repeat (first|(with_reducible first|exact HB.out|apply zD|apply zC|apply zE|refine zF ?_ GE336.out)|exact HB.out)⟩⟩
   case round =>
    clear H'
    try clear c1
    try clear c2
    try clear p2
    try clear c3
    try clear c5
    try clear c5b0
    try clear c5b1
    try clear c7
    try clear c7b0
    try clear c7b1
    try clear hcz11_0
    try clear hcz11_1
    try clear hcz9_0
    try clear hcz9_1
    try clear hfz11_0
    try clear hfz11_1
    try clear hfz9_0
    try clear hfz9_1
    obtain ⟨x10_1,x11_1,rfl,HA,HK1,HO_9,HO_10,BK336,HB⟩:=hrel
    cases gk with
    | zero=>exact absurd HA.out (by simp [foretellref_LetterOf.l0])
    | succ k1 =>
     have H:=HA.out
     clear HA
     simp only [foretellref_LetterOf.l0] at H
     by_cases c13:x11_1 < (l1.length:Int)
     ·rw [if_pos c13] at H
      have c13b0:decide (x11_1 < (l1.length:Int)) = true:=zQ c13
      clear c13
      by_cases c14:0 ≤ x11_1
      ·rw [if_pos c14] at H
       have c14b0:decide (0 ≤ x11_1) = true:=zQ c14
       clear c14
       replace H:=zb.mp H
       obtain ⟨⟨t343,t344⟩,A150,H⟩:=H
       replace H:(if t344 = 0 then (if x10_1.length < 140737488355328 then (foretellref_LetterOf.l0 k1 l1 t338 (x10_1 ++ [(t343 == 1)]) (wrap64 (x11_1 + 1))) else (none)) else (if x10_1.length < 140737488355328 then (foretellref_LetterOf.l0 k1 l1 t338 (x10_1 ++ [false]) (wrap64 (x11_1 + 1))) else (none))) = some (r1,r2):=H
       have A15:=zA A150
       clear A150
       by_cases c16:t344 = 0
       ·rw [if_pos c16] at H
        have c16b0:(t344 == 0) = true:=beq_iff_eq.mpr c16
        have c16b1:(t344 != 0) = false:=bne_eq_false_iff_eq.mpr c16
        clear c16
        by_cases c17:x10_1.length < 140737488355328
        ·rw [if_pos c17] at H
         have LMc17:=zA c17
         clear c17
         obtain ⟨y345,hy345⟩:∃ y_:List Bool,y_ = (x10_1 ++ [(t343 == 1)]):=⟨_,rfl⟩
         replace H:(foretellref_LetterOf.l0 k1 l1 t338 y345 (wrap64 (x11_1 + 1))) = some (r1,r2):=by first|(rw [hy345];with_reducible exact H)|(have H2_:=(Option.bind_some _ _).symm.trans H;rw [hy345];with_reducible exact H2_)|(have H2_:=(Option.bind_some _ _).symm.trans H;with_reducible exact H2_)|with_reducible exact H|(rw [hy345];exact H)|exact H
         have Ny345:=zA hy345
         clear hy345
         have H':=zA H
         clear H
         have p342:0 ≤ (x11_1:Int):=zP (by assumption)
         have q342:x11_1 < (l1.length:Int):=zP (by assumption)
         obtain ⟨ad342,A342_0,c342_0,e342,hx342_0,hl342_0,hi342_0⟩:=at_L4 HR1.out x11_1 p342 q342
         cases e342
         replace hx342_0:=(HB.out.cell (zB w _ hx342_0)).trans hx342_0
         have HR342_0:=zA hi342_0
         have HC342_0:=zA hl342_0
         clear hi342_0 hl342_0
         replace p342:=eq_true p342
         replace q342:=eq_true q342
         obtain ⟨Ao18,co18,eo18⟩:=Kd.R_slice HO_9.out
         subst eo18
         go_wp2_with (first|((with_reducible refine zU (f:=61) rfl ?_);refine goesL_ (some 41) rfl rfl Tryd.func61 (by kernel_rfl) rfl #[.slice A342_0 (rd_L4 l1 x11_1).length c342_0,.slice Ao18 t338.length co18] rfl (by (try simp only [zx,zy,zz]);first|done|rfl|(simp only [zd,zt];rfl)) ?_;(with_reducible refine (foretellref_Evaluated.calls k1 _ _ (rd_L4 l1 x11_1) _ _ t338 t343 t344 _ ?side1 ?side2 ?side3 ?side4 A15.out).mono ?_);(case side1=>repeat (first|exact (zT HR342_0.out HB.out)|(with_reducible refine Kd.C_alloc ?_ _)|(with_reducible refine Kd.C_drewN ?_ _)|(with_reducible refine Kd.C_drew ?_)));(case side2=>exact HC342_0.out);(case side3=>repeat (first|exact (Kd.R_reads' HO_9.out).2.2|(with_reducible refine Kd.C_alloc ?_ _)|(with_reducible refine Kd.C_drewN ?_ _)|(with_reducible refine Kd.C_drew ?_)));(case side4=>exact (Kd.R_reads' HO_9.out).2.1);rintro e w19 ⟨rfl,hb⟩;refine ⟨_,rfl,?_⟩;have n0_:=zA (Kd.R_below (by (with_reducible repeat (first|apply Kd.R_alloc|apply Kd.R_drewN|apply Kd.R_drew));exact HO_9.out) hb);have n1_:=zA (Kd.R_below (by (with_reducible repeat (first|apply Kd.R_alloc|apply Kd.R_drewN|apply Kd.R_drew));exact HO_10.out) hb);have n2_:=zA (zN (g:=gb336) (o:=.cells #[.slice A0_0 l0_0.length c0_0,.slice A0_1 l0_1.length c0_1] 25 (0,0)) (by (with_reducible repeat (first|refine zL ?_ _|refine zM ?_|refine zK ?_ _));exact BK336.out) hb);have n3_:=zA (zH (by repeat (first|(with_reducible first|exact HB.out|apply zD|apply zC|apply zE|refine zF ?_ GE336.out)|exact HB.out)) hb);clear HO_9;clear HO_10;clear BK336;clear HB;have HO_9:=n0_;have HO_10:=n1_;have BK336:=n2_;have HB:=n3_;clear n0_ n1_ n2_ n3_;(try clear hb);(try clear hb2);(try clear hk);(try clear hi))|((with_reducible refine gate_builtin (b:=.append) (xs:=#[.tmp 44,.tmp 51]) rfl ?_);at_builtin;refine Kd.R_append Kd.bool (w0:=w) w.heap.size rfl (.tmp 44) (.tmp 51) 52 4 (.bool false) 1 rfl Tryd.underlying52 info4 rfl (by decide) (by omega) u10 x10_1 (t343 == 1) [.bool (t343 == 1)] (fun _=>True) (fun _=>False) rfl rfl ?aP (fun _ hk=>hk.elim) ?aF ?aO ?aB ?aS ?aL ?_;(case aP=>exact rfl);(case aB=>exact (by repeat (first|(with_reducible first|exact HB.out|apply zD|apply zC|apply zE|refine zF ?_ GE336.out)|exact HB.out)));(case aF=>exact (fun _ _=>trivial));(case aO=>exact (by (with_reducible repeat (first|apply Kd.R_alloc|apply Kd.R_drewN|apply Kd.R_drew));exact HO_10.out));(case aS=>exact (zG (by repeat (first|(with_reducible first|exact HB.out|apply zD|apply zC|apply zE|refine zF ?_ GE336.out)|exact HB.out))));(case aL=>have:=LMc17.out;omega);intro v346 w20 ho hb hg hat;rw [← Ny345.out] at ho;have n0_:=zA (Kd.R_over' (by (with_reducible repeat (first|apply Kd.R_alloc|apply Kd.R_drewN|apply Kd.R_drew));exact HO_9.out) (Kd.R_typed (by (with_reducible repeat (first|apply Kd.R_alloc|apply Kd.R_drewN|apply Kd.R_drew));exact HO_10.out)) (by decide) hg);have n1_:=zA (blk_grown (g:=gb336) (o:=.cells #[.slice A0_0 l0_0.length c0_0,.slice A0_1 l0_1.length c0_1] 25 (0,0)) (by (with_reducible repeat (first|refine zL ?_ _|refine zM ?_|refine zK ?_ _));exact BK336.out) hg (Kd.R_ne HO_10.out BK336.out (by decide)));have n2_:=zA (hb);have n3_:=zA (ho);clear HO_9;clear BK336;clear HB;clear HO_10;have HO_9:=n0_;have BK336:=n1_;have HB:=n2_;have HO347:=n3_;clear n0_ n1_ n2_ n3_;clear ho hb hg hat))
         go_roundg k1
         case measure=>have:=HK1.out;omega
         case rel=>exact ⟨(y345),(wrap64 (x11_1 + 1)),(by first|rfl|(simp;done)|(simp [*];done)),H',⟨by have:=HK1.out;omega⟩,⟨by (with_reducible repeat (first|apply Kd.R_alloc|apply Kd.R_drewN|apply Kd.R_drew));exact HO_9.out⟩,⟨by (with_reducible repeat (first|apply Kd.R_alloc|apply Kd.R_drewN|apply Kd.R_drew));exact HO347.out⟩,⟨by (with_reducible repeat (first|refine zL ?_ _|refine zM ?_|refine zK ?_ _));exact BK336.out⟩,⟨by repeat (first|(with_reducible first|exact HB.out|apply zD|apply zC|apply zE|refine zF ?_ GE336.out)|exact HB.out)⟩⟩
        ·rw [if_neg c17] at H
         exact absurd H (by simp)
       ·rw [if_neg c16] at H
        have c16b0:(t344 == 0) = false:=beq_eq_false_iff_ne.mpr c16
        have c16b1:(t344 != 0) = true:=bne_iff_ne.mpr c16
        by_cases c21:x10_1.length < 140737488355328
        ·rw [if_pos c21] at H
         have LMc21:=zA c21
         clear c21
         obtain ⟨y348,hy348⟩:∃ y_:List Bool,y_ = (x10_1 ++ [false]):=⟨_,rfl⟩
         replace H:(foretellref_LetterOf.l0 k1 l1 t338 y348 (wrap64 (x11_1 + 1))) = some (r1,r2):=by first|(rw [hy348];with_reducible exact H)|(have H2_:=(Option.bind_some _ _).symm.trans H;rw [hy348];with_reducible exact H2_)|(have H2_:=(Option.bind_some _ _).symm.trans H;with_reducible exact H2_)|with_reducible exact H|(rw [hy348];exact H)|exact H
         have Ny348:=zA hy348
         clear hy348
         have H':=zA H
         clear H
         have p342:0 ≤ (x11_1:Int):=zP (by assumption)
         have q342:x11_1 < (l1.length:Int):=zP (by assumption)
         obtain ⟨ad342,A342_0,c342_0,e342,hx342_0,hl342_0,hi342_0⟩:=at_L4 HR1.out x11_1 p342 q342
         cases e342
         replace hx342_0:=(HB.out.cell (zB w _ hx342_0)).trans hx342_0
         have HR342_0:=zA hi342_0
         have HC342_0:=zA hl342_0
         clear hi342_0 hl342_0
         replace p342:=eq_true p342
         replace q342:=eq_true q342
         obtain ⟨Ao22,co22,eo22⟩:=Kd.R_slice HO_9.out
         subst eo22
         go_wp2_with (first|((with_reducible refine zU (f:=61) rfl ?_);refine goesL_ (some 41) rfl rfl Tryd.func61 (by kernel_rfl) rfl #[.slice A342_0 (rd_L4 l1 x11_1).length c342_0,.slice Ao22 t338.length co22] rfl (by (try simp only [zx,zy,zz]);first|done|rfl|(simp only [zd,zt];rfl)) ?_;(with_reducible refine (foretellref_Evaluated.calls k1 _ _ (rd_L4 l1 x11_1) _ _ t338 t343 t344 _ ?side1 ?side2 ?side3 ?side4 A15.out).mono ?_);(case side1=>repeat (first|exact (zT HR342_0.out HB.out)|(with_reducible refine Kd.C_alloc ?_ _)|(with_reducible refine Kd.C_drewN ?_ _)|(with_reducible refine Kd.C_drew ?_)));(case side2=>exact HC342_0.out);(case side3=>repeat (first|exact (Kd.R_reads' HO_9.out).2.2|(with_reducible refine Kd.C_alloc ?_ _)|(with_reducible refine Kd.C_drewN ?_ _)|(with_reducible refine Kd.C_drew ?_)));(case side4=>exact (Kd.R_reads' HO_9.out).2.1);rintro e w23 ⟨rfl,hb⟩;refine ⟨_,rfl,?_⟩;have n0_:=zA (Kd.R_below (by (with_reducible repeat (first|apply Kd.R_alloc|apply Kd.R_drewN|apply Kd.R_drew));exact HO_9.out) hb);have n1_:=zA (Kd.R_below (by (with_reducible repeat (first|apply Kd.R_alloc|apply Kd.R_drewN|apply Kd.R_drew));exact HO_10.out) hb);have n2_:=zA (zN (g:=gb336) (o:=.cells #[.slice A0_0 l0_0.length c0_0,.slice A0_1 l0_1.length c0_1] 25 (0,0)) (by (with_reducible repeat (first|refine zL ?_ _|refine zM ?_|refine zK ?_ _));exact BK336.out) hb);have n3_:=zA (zH (by repeat (first|(with_reducible first|exact HB.out|apply zD|apply zC|apply zE|refine zF ?_ GE336.out)|exact HB.out)) hb);clear HO_9;clear HO_10;clear BK336;clear HB;have HO_9:=n0_;have HO_10:=n1_;have BK336:=n2_;have HB:=n3_;clear n0_ n1_ n2_ n3_;(try clear hb);(try clear hb2);(try clear hk);(try clear hi))|((with_reducible refine gate_builtin (b:=.append) (xs:=#[.tmp 44,.tmp 51]) rfl ?_);at_builtin;refine Kd.R_append Kd.bool (w0:=w) w.heap.size rfl (.tmp 44) (.tmp 51) 52 4 (.bool false) 1 rfl Tryd.underlying52 info4 rfl (by decide) (by omega) u10 x10_1 false [.bool false] (fun _=>True) (fun _=>False) rfl rfl ?aP (fun _ hk=>hk.elim) ?aF ?aO ?aB ?aS ?aL ?_;(case aP=>exact rfl);(case aB=>exact (by repeat (first|(with_reducible first|exact HB.out|apply zD|apply zC|apply zE|refine zF ?_ GE336.out)|exact HB.out)));(case aF=>exact (fun _ _=>trivial));(case aO=>exact (by (with_reducible repeat (first|apply Kd.R_alloc|apply Kd.R_drewN|apply Kd.R_drew));exact HO_10.out));(case aS=>exact (zG (by repeat (first|(with_reducible first|exact HB.out|apply zD|apply zC|apply zE|refine zF ?_ GE336.out)|exact HB.out))));(case aL=>have:=LMc21.out;omega);intro v349 w24 ho hb hg hat;rw [← Ny348.out] at ho;have n0_:=zA (Kd.R_over' (by (with_reducible repeat (first|apply Kd.R_alloc|apply Kd.R_drewN|apply Kd.R_drew));exact HO_9.out) (Kd.R_typed (by (with_reducible repeat (first|apply Kd.R_alloc|apply Kd.R_drewN|apply Kd.R_drew));exact HO_10.out)) (by decide) hg);have n1_:=zA (blk_grown (g:=gb336) (o:=.cells #[.slice A0_0 l0_0.length c0_0,.slice A0_1 l0_1.length c0_1] 25 (0,0)) (by (with_reducible repeat (first|refine zL ?_ _|refine zM ?_|refine zK ?_ _));exact BK336.out) hg (Kd.R_ne HO_10.out BK336.out (by decide)));have n2_:=zA (hb);have n3_:=zA (ho);clear HO_9;clear BK336;clear HB;clear HO_10;have HO_9:=n0_;have BK336:=n1_;have HB:=n2_;have HO350:=n3_;clear n0_ n1_ n2_ n3_;clear ho hb hg hat))
         go_roundg k1
         case measure=>have:=HK1.out;omega
         case rel=>exact ⟨(y348),(wrap64 (x11_1 + 1)),(by first|rfl|(simp;done)|(simp [*];done)),H',⟨by have:=HK1.out;omega⟩,⟨by (with_reducible repeat (first|apply Kd.R_alloc|apply Kd.R_drewN|apply Kd.R_drew));exact HO_9.out⟩,⟨by (with_reducible repeat (first|apply Kd.R_alloc|apply Kd.R_drewN|apply Kd.R_drew));exact HO350.out⟩,⟨by (with_reducible repeat (first|refine zL ?_ _|refine zM ?_|refine zK ?_ _));exact BK336.out⟩,⟨by repeat (first|(with_reducible first|exact HB.out|apply zD|apply zC|apply zE|refine zF ?_ GE336.out)|exact HB.out)⟩⟩
        ·rw [if_neg c21] at H
         exact absurd H (by simp)
      ·rw [if_neg c14] at H
       exact absurd H (by simp)
     ·rw [if_neg c13] at H
      have c13b0:decide (x11_1 < (l1.length:Int)) = false:=zR c13
      clear c13
      simp only [Option.some.injEq,Prod.mk.injEq] at H
      obtain ⟨rfl,rfl⟩:=H
      go_wp2
      go_ret2
      exact ⟨_,by first|rfl|(simp [errW_none,errW_some] <;> rfl)|(simp [*,errW_none,errW_some] <;> rfl),by (with_reducible repeat (first|apply Kd.R_alloc|apply Kd.R_drewN|apply Kd.R_drew));exact HO_10.out,by repeat (first|(with_reducible first|exact HB.out|apply zD|apply zC|apply zE|refine zF ?_ GE336.out)|exact HB.out)⟩
  ·rw [if_neg c7] at H
   have c7b0:(t341 == 0) = false:=beq_eq_false_iff_ne.mpr c7
   have c7b1:(t341 != 0) = true:=bne_iff_ne.mpr c7
   simp only [Option.some.injEq,Prod.mk.injEq] at H
   obtain ⟨rfl,rfl⟩:=H
   go_enter Tryd.func37,Tryd.ntmps37
   go_wp2_with (first|((with_reducible refine zV (N:=3) rfl ?_);refine zW ?hg (N:=3) ?hd (cs:=#[.slice A0_0 l0_0.length c0_0,.slice A0_1 l0_1.length c0_1]) (t:=25) ?hr ?_;(case hd=>rfl);(case hg=>rfl);(case hr=>first|(go_simp;done)|(go_simp;rfl));intro gb336 hg w25 hbox hb;have n0_:=zA (zH (by repeat (first|(with_reducible first|exact HB.out|apply zD|apply zC|apply zE)|exact HB.out)) hb);have n1_:=zA (hbox);have n2_:=zA ((by rw [hg];exact (zG (by repeat (first|(with_reducible first|exact HB.out|apply zD|apply zC|apply zE)|exact HB.out))):w.heap.size ≤ gb336));have n3_:=zA ((by rw [hg];exact (zG (by repeat (first|(with_reducible first|exact HB.out|apply zD|apply zC|apply zE)|exact HB.out))):w.heap.size ≤ gb336));clear HB;have HB:=n0_;have BK336:=n1_;have GW336:=n2_;have GE336:=n3_;clear n0_ n1_ n2_ n3_;clear hb hbox hg;have hcz26_0:w25.cell? ⟨gb336,0,none⟩ = some (.slice A0_0 l0_0.length c0_0):=(zI BK336.out 0).trans rfl;have hcz26_1:w25.cell? ⟨gb336,1,none⟩ = some (.slice A0_1 l0_1.length c0_1):=(zI BK336.out 1).trans rfl;have hfz26_0:=zJ BK336.out 0;have hfz26_1:=zJ BK336.out 1)|((with_reducible refine zU (f:=23) rfl ?_);refine goesL_ (some 16) rfl rfl Tryd.func23 (by kernel_rfl) rfl #[.agg #[.slice A0_0 l0_0.length c0_0,.slice A0_1 l0_1.length c0_1],.slice A1 l1.length c1] rfl (by (try simp only [zx,zy,zz]);first|done|rfl|(simp only [zd,zt];rfl)) ?_;(with_reducible refine (foretellref_PropsFault.calls k _ _ l0_0 _ _ l0_1 _ _ l1 t337 _ ?side1 ?side2 ?side3 ?side4 ?side5 ?side6 A4.out).mono ?_);(case side1=>repeat (first|exact (zT HR0_0.out HB.out)|(with_reducible refine Kd.C_alloc ?_ _)|(with_reducible refine Kd.C_drewN ?_ _)|(with_reducible refine Kd.C_drew ?_)));(case side2=>exact HC0_0.out);(case side3=>repeat (first|exact (zT HR0_1.out HB.out)|(with_reducible refine Kd.C_alloc ?_ _)|(with_reducible refine Kd.C_drewN ?_ _)|(with_reducible refine Kd.C_drew ?_)));(case side4=>exact HC0_1.out);(case side5=>repeat (first|exact (zT HR1.out HB.out)|(with_reducible refine Kd.C_alloc ?_ _)|(with_reducible refine Kd.C_drewN ?_ _)|(with_reducible refine Kd.C_drew ?_)));(case side6=>exact HC1.out);rintro e w27 ⟨rfl,hb⟩;refine ⟨_,rfl,?_⟩;have n0_:=zA (zN (g:=gb336) (o:=.cells #[.slice A0_0 l0_0.length c0_0,.slice A0_1 l0_1.length c0_1] 25 (0,0)) (by (with_reducible repeat (first|refine zL ?_ _|refine zM ?_|refine zK ?_ _));exact BK336.out) hb);have n1_:=zA (zH (by repeat (first|(with_reducible first|exact HB.out|apply zD|apply zC|apply zE|refine zF ?_ GE336.out)|exact HB.out)) hb);clear BK336;clear HB;have BK336:=n0_;have HB:=n1_;clear n0_ n1_;(try clear hb);(try clear hb2);(try clear hk);(try clear hi);have hcz28_0:w27.cell? ⟨gb336,0,none⟩ = some (.slice A0_0 l0_0.length c0_0):=(zI BK336.out 0).trans rfl;have hcz28_1:w27.cell? ⟨gb336,1,none⟩ = some (.slice A0_1 l0_1.length c0_1):=(zI BK336.out 1).trans rfl;have hfz28_0:=zJ BK336.out 0;have hfz28_1:=zJ BK336.out 1)|((with_reducible refine zU (f:=31) rfl ?_);refine goesL_ (some 23) rfl rfl Tryd.func31 (by kernel_rfl) rfl #[.agg #[.slice A0_0 l0_0.length c0_0,.slice A0_1 l0_1.length c0_1],.int .i64 a2] rfl (by (try simp only [zx,zy,zz]);first|done|rfl|(simp only [zd,zt];rfl)) ?_;(with_reducible refine (foretellref_ValuesOf.calls k _ _ l0_0 _ _ l0_1 a2 t338 t341 _ ?side1 ?side2 ?side3 ?side4 A6.out).mono ?_);(case side1=>repeat (first|exact (zT HR0_0.out HB.out)|(with_reducible refine Kd.C_alloc ?_ _)|(with_reducible refine Kd.C_drewN ?_ _)|(with_reducible refine Kd.C_drew ?_)));(case side2=>exact HC0_0.out);(case side3=>repeat (first|exact (zT HR0_1.out HB.out)|(with_reducible refine Kd.C_alloc ?_ _)|(with_reducible refine Kd.C_drewN ?_ _)|(with_reducible refine Kd.C_drew ?_)));(case side4=>exact HC0_1.out);rintro e w29 ⟨v339,rfl,ho0,hb⟩;refine ⟨_,rfl,?_⟩;have n0_:=zA (Kd.R_lower ho0 (zG (by repeat (first|(with_reducible first|exact HB.out|apply zD|apply zC|apply zE|refine zF ?_ GE336.out)|exact HB.out))));have n1_:=zA (zN (g:=gb336) (o:=.cells #[.slice A0_0 l0_0.length c0_0,.slice A0_1 l0_1.length c0_1] 25 (0,0)) (by (with_reducible repeat (first|refine zL ?_ _|refine zM ?_|refine zK ?_ _));exact BK336.out) hb);have n2_:=zA (zH (by repeat (first|(with_reducible first|exact HB.out|apply zD|apply zC|apply zE|refine zF ?_ GE336.out)|exact HB.out)) hb);clear BK336;clear HB;have HO340:=n0_;have BK336:=n1_;have HB:=n2_;clear n0_ n1_ n2_;(try clear hb);(try clear hb2);(try clear hk);(try clear hi);(try clear ho0)))
   go_ret2
   exact ⟨_,by first|rfl|(simp [errW_none,errW_some] <;> rfl)|(simp [*,errW_none,errW_some] <;> rfl),by first|exact Kd.R_nil _ _ _ _ _|exact Kd.N_nil _ _ _ _ _|exact Kd.V_nil _ _ _ _ _|exact Kd.Q_nil _ _ _ _ _|exact Kd.S_nil _ _ _ _ _,by repeat (first|(with_reducible first|exact HB.out|apply zD|apply zC|apply zE|refine zF ?_ GE336.out)|exact HB.out)⟩
 ·rw [if_neg c5] at H
  have c5b0:(t337 == 0) = false:=beq_eq_false_iff_ne.mpr c5
  have c5b1:(t337 != 0) = true:=bne_iff_ne.mpr c5
  simp only [Option.some.injEq,Prod.mk.injEq] at H
  obtain ⟨rfl,rfl⟩:=H
  go_enter Tryd.func37,Tryd.ntmps37
  go_wp2_with (first|((with_reducible refine zV (N:=3) rfl ?_);refine zW ?hg (N:=3) ?hd (cs:=#[.slice A0_0 l0_0.length c0_0,.slice A0_1 l0_1.length c0_1]) (t:=25) ?hr ?_;(case hd=>rfl);(case hg=>rfl);(case hr=>first|(go_simp;done)|(go_simp;rfl));intro gb336 hg w30 hbox hb;have n0_:=zA (zH (by repeat (first|(with_reducible first|exact HB.out|apply zD|apply zC|apply zE)|exact HB.out)) hb);have n1_:=zA (hbox);have n2_:=zA ((by rw [hg];exact (zG (by repeat (first|(with_reducible first|exact HB.out|apply zD|apply zC|apply zE)|exact HB.out))):w.heap.size ≤ gb336));have n3_:=zA ((by rw [hg];exact (zG (by repeat (first|(with_reducible first|exact HB.out|apply zD|apply zC|apply zE)|exact HB.out))):w.heap.size ≤ gb336));clear HB;have HB:=n0_;have BK336:=n1_;have GW336:=n2_;have GE336:=n3_;clear n0_ n1_ n2_ n3_;clear hb hbox hg;have hcz31_0:w30.cell? ⟨gb336,0,none⟩ = some (.slice A0_0 l0_0.length c0_0):=(zI BK336.out 0).trans rfl;have hcz31_1:w30.cell? ⟨gb336,1,none⟩ = some (.slice A0_1 l0_1.length c0_1):=(zI BK336.out 1).trans rfl;have hfz31_0:=zJ BK336.out 0;have hfz31_1:=zJ BK336.out 1)|((with_reducible refine zU (f:=23) rfl ?_);refine goesL_ (some 16) rfl rfl Tryd.func23 (by kernel_rfl) rfl #[.agg #[.slice A0_0 l0_0.length c0_0,.slice A0_1 l0_1.length c0_1],.slice A1 l1.length c1] rfl (by (try simp only [zx,zy,zz]);first|done|rfl|(simp only [zd,zt];rfl)) ?_;(with_reducible refine (foretellref_PropsFault.calls k _ _ l0_0 _ _ l0_1 _ _ l1 t337 _ ?side1 ?side2 ?side3 ?side4 ?side5 ?side6 A4.out).mono ?_);(case side1=>repeat (first|exact (zT HR0_0.out HB.out)|(with_reducible refine Kd.C_alloc ?_ _)|(with_reducible refine Kd.C_drewN ?_ _)|(with_reducible refine Kd.C_drew ?_)));(case side2=>exact HC0_0.out);(case side3=>repeat (first|exact (zT HR0_1.out HB.out)|(with_reducible refine Kd.C_alloc ?_ _)|(with_reducible refine Kd.C_drewN ?_ _)|(with_reducible refine Kd.C_drew ?_)));(case side4=>exact HC0_1.out);(case side5=>repeat (first|exact (zT HR1.out HB.out)|(with_reducible refine Kd.C_alloc ?_ _)|(with_reducible refine Kd.C_drewN ?_ _)|(with_reducible refine Kd.C_drew ?_)));(case side6=>exact HC1.out);rintro e w32 ⟨rfl,hb⟩;refine ⟨_,rfl,?_⟩;have n0_:=zA (zN (g:=gb336) (o:=.cells #[.slice A0_0 l0_0.length c0_0,.slice A0_1 l0_1.length c0_1] 25 (0,0)) (by (with_reducible repeat (first|refine zL ?_ _|refine zM ?_|refine zK ?_ _));exact BK336.out) hb);have n1_:=zA (zH (by repeat (first|(with_reducible first|exact HB.out|apply zD|apply zC|apply zE|refine zF ?_ GE336.out)|exact HB.out)) hb);clear BK336;clear HB;have BK336:=n0_;have HB:=n1_;clear n0_ n1_;(try clear hb);(try clear hb2);(try clear hk);(try clear hi)))
  go_ret2
  exact ⟨_,by first|rfl|(simp [errW_none,errW_some] <;> rfl)|(simp [*,errW_none,errW_some] <;> rfl),by first|exact Kd.R_nil _ _ _ _ _|exact Kd.N_nil _ _ _ _ _|exact Kd.V_nil _ _ _ _ _|exact Kd.Q_nil _ _ _ _ _|exact Kd.S_nil _ _ _ _ _,by repeat (first|(with_reducible first|exact HB.out|apply zD|apply zC|apply zE|refine zF ?_ GE336.out)|exact HB.out)⟩
def foretelllaw_sameTruths.l0:Nat → List Bool → List Bool → Int → Option (Bool)
 | 0,_,_,_=>none
 | k + 1,x0,x1,x5=>if x5 < (x0.length:Int) then (if 0 ≤ x5 then (if x5 < (x1.length:Int) then (if ((rdOf false x0 x5) != (rdOf false x1 x5)) = true then (some false) else (foretelllaw_sameTruths.l0 k x0 x1 (wrap64 (x5 + 1)))) else (none)) else (none)) else (some true)
def foretelllaw_sameTruths.f (k:Nat) (l0:List Bool) (l1:List Bool):Option (Bool):=if (l0.length:Int) = (l1.length:Int) then (foretelllaw_sameTruths.l0 k l0 l1 0) else (some false)
theorem foretelllaw_sameTruths.mono_l:∀ k,(∀ y0 y1 y2,LeO (foretelllaw_sameTruths.l0 k y0 y1 y2) (foretelllaw_sameTruths.l0 (k + 1) y0 y1 y2))
 | 0=>fun _ _ _ r h=>by simp [foretelllaw_sameTruths.l0] at h
 | k + 1=>by
  have ih0:=foretelllaw_sameTruths.mono_l k
  ·intro y0 y1 y2
   unfold foretelllaw_sameTruths.l0
   repeat' first
   | (with_reducible exact ih0 _ _ _)
   | (with_reducible exact LeO.refl _)
   | (with_reducible exact LeO.none _)
   | (with_reducible refine LeO.ite ?_ ?_)
   | (with_reducible refine LeO.bind ?_ (fun _=>?_))
   | exact ih0 _ _ _
   | exact LeO.none _
   | refine LeO.ite ?_ ?_
   | refine LeO.bind ?_ (fun _=>?_)
theorem foretelllaw_sameTruths.mono:∀ a0 a1 k,LeO (foretelllaw_sameTruths.f k a0 a1) (foretelllaw_sameTruths.f (k + 1) a0 a1):=by
 intro a0 a1 k
 have ih0:=foretelllaw_sameTruths.mono_l k
 unfold foretelllaw_sameTruths.f
 repeat' first
   | (with_reducible exact ih0 _ _ _)
   | (with_reducible exact LeO.refl _)
   | (with_reducible exact LeO.none _)
   | (with_reducible refine LeO.ite ?_ ?_)
   | (with_reducible refine LeO.bind ?_ (fun _=>?_))
   | exact ih0 _ _ _
   | exact LeO.none _
   | refine LeO.ite ?_ ?_
   | refine LeO.bind ?_ (fun _=>?_)
set_option maxHeartbeats 8000000 in
set_option maxRecDepth 100000 in
theorem foretelllaw_sameTruths.calls (k:Nat) (A0:Option Addr) (c0:Nat) (l0:List Bool) (A1:Option Addr) (c1:Nat) (l1:List Bool) (r:Bool) (w:World) (hr0:Kd.C Kd.bool w A0 l0.length l0) (hc0:l0.length ≤ c0) (hr1:Kd.C Kd.bool w A1 l1.length l1) (hc1:l1.length ≤ c1) (h:foretelllaw_sameTruths.f k l0 l1 = some r) :
  Calls Tryd.prog 38 #[.slice A0 l0.length c0,.slice A1 l1.length c1] w fun e w'=>e = .returned (.bool r)∧Drawn0 w w':=by
 have HR0:=zA hr0
 have HC0:=zA hc0
 clear hr0 hc0
 have HR1:=zA hr1
 have HC1:=zA hc1
 clear hr1 hc1
 have H:(if (l0.length:Int) = (l1.length:Int) then (foretelllaw_sameTruths.l0 k l0 l1 0) else (some false)) = some r:=h
 clear h
 by_cases c3:(l0.length:Int) = (l1.length:Int)
 ·rw [if_pos c3] at H
  have c3b0:((l0.length:Int) == (l1.length:Int)) = true:=beq_iff_eq.mpr c3
  have c3b1:((l0.length:Int) != (l1.length:Int)) = false:=bne_eq_false_iff_eq.mpr c3
  have c3b2:(l0.length == l1.length) = true:=by first|simpa using c3|(simp at c3 ⊢;omega)
  clear c3
  have H':=zA H
  clear H
  go_enter Tryd.func38,Tryd.ntmps38
  go_wp2
  repeat (go_quiet (fail);try go_wp2)
  go_loopg [5] k (fun kq v5 w'=>∃ (x5_1:Int),v5 = .int .i64 x5_1∧Aside0 (foretelllaw_sameTruths.l0 kq l0 l1 x5_1 = some r)∧Aside0 (kq ≤ k)∧Drawn0 w w')
  case atStart=>exact ⟨(0),(by first|rfl|(simp;done)|(simp [*];done)),H',⟨Nat.le_refl _⟩,by repeat (first|exact Drawn0.refl _|apply Drawn0.step)⟩
  case round =>
   clear H'
   try clear c1
   try clear p2
   try clear c3
   try clear c3b0
   try clear c3b1
   try clear c3b2
   obtain ⟨x5_1,rfl,HA,HK1,⟨m1,rfl⟩⟩:=hrel
   cases gk with
   | zero=>exact absurd HA.out (by simp [foretelllaw_sameTruths.l0])
   | succ k1 =>
    have H:=HA.out
    clear HA
    simp only [foretelllaw_sameTruths.l0] at H
    by_cases c4:x5_1 < (l0.length:Int)
    ·rw [if_pos c4] at H
     have c4b0:decide (x5_1 < (l0.length:Int)) = true:=zQ c4
     clear c4
     by_cases c5:0 ≤ x5_1
     ·rw [if_pos c5] at H
      have c5b0:decide (0 ≤ x5_1) = true:=zQ c5
      clear c5
      by_cases c6:x5_1 < (l1.length:Int)
      ·rw [if_pos c6] at H
       have c6b0:decide (x5_1 < (l1.length:Int)) = true:=zQ c6
       clear c6
       by_cases c7:((rdOf false l0 x5_1) != (rdOf false l1 x5_1)) = true
       ·rw [if_pos c7] at H
        have c7b0:((rdOf false l0 x5_1) != (rdOf false l1 x5_1)) = true:=c7
        (try (have c7b1:decide ((rdOf false l0 x5_1) = (rdOf false l1 x5_1)) = false:=by simpa using c7))
        (try (have c7b2:((rdOf false l0 x5_1) == (rdOf false l1 x5_1)) = false:=by simpa using c7))
        (try (have c7b3:¬ ((rdOf false l0 x5_1) = (rdOf false l1 x5_1)):=by simpa using c7))
        clear c7
        obtain rfl:=Option.some.inj H
        have p351:0 ≤ (x5_1:Int):=zP (by assumption)
        have q351:x5_1 < (l0.length:Int):=zP (by assumption)
        obtain ⟨ad351,e351,hx351_0⟩:=Kd.at_bool HR0.out x5_1 p351 q351
        cases e351
        replace p351:=eq_true p351
        replace q351:=eq_true q351
        have p352:0 ≤ (x5_1:Int):=zP (by assumption)
        have q352:x5_1 < (l1.length:Int):=zP (by assumption)
        obtain ⟨ad352,e352,hx352_0⟩:=Kd.at_bool HR1.out x5_1 p352 q352
        cases e352
        replace p352:=eq_true p352
        replace q352:=eq_true q352
        go_wp2
        repeat (go_quiet (fail);try go_wp2)
        go_ret
        exact ⟨by first|rfl|(simp;done)|(simp [*];done),by repeat (first|exact Drawn0.refl _|apply Drawn0.step)⟩
       ·rw [if_neg c7] at H
        have c7b0:((rdOf false l0 x5_1) != (rdOf false l1 x5_1)) = false:=by simpa using c7
        (try (have c7b1:decide ((rdOf false l0 x5_1) = (rdOf false l1 x5_1)) = true:=by simpa using c7))
        (try (have c7b2:((rdOf false l0 x5_1) == (rdOf false l1 x5_1)) = true:=by simpa using c7))
        clear c7
        have H':=zA H
        clear H
        have p351:0 ≤ (x5_1:Int):=zP (by assumption)
        have q351:x5_1 < (l0.length:Int):=zP (by assumption)
        obtain ⟨ad351,e351,hx351_0⟩:=Kd.at_bool HR0.out x5_1 p351 q351
        cases e351
        replace p351:=eq_true p351
        replace q351:=eq_true q351
        have p352:0 ≤ (x5_1:Int):=zP (by assumption)
        have q352:x5_1 < (l1.length:Int):=zP (by assumption)
        obtain ⟨ad352,e352,hx352_0⟩:=Kd.at_bool HR1.out x5_1 p352 q352
        cases e352
        replace p352:=eq_true p352
        replace q352:=eq_true q352
        go_wp2
        repeat (go_quiet (fail);try go_wp2)
        go_roundg k1
        case measure=>have:=HK1.out;omega
        case rel=>exact ⟨(wrap64 (x5_1 + 1)),(by first|rfl|(simp;done)|(simp [*];done)),H',⟨by have:=HK1.out;omega⟩,by repeat (first|exact Drawn0.refl _|apply Drawn0.step)⟩
      ·rw [if_neg c6] at H
       exact absurd H (by simp)
     ·rw [if_neg c5] at H
      exact absurd H (by simp)
    ·rw [if_neg c4] at H
     have c4b0:decide (x5_1 < (l0.length:Int)) = false:=zR c4
     clear c4
     obtain rfl:=Option.some.inj H
     go_wp2
     repeat (go_quiet (fail);try go_wp2)
     go_ret
     exact ⟨by first|rfl|(simp;done)|(simp [*];done),by repeat (first|exact Drawn0.refl _|apply Drawn0.step)⟩
 ·rw [if_neg c3] at H
  have c3b0:((l0.length:Int) == (l1.length:Int)) = false:=beq_eq_false_iff_ne.mpr c3
  have c3b1:((l0.length:Int) != (l1.length:Int)) = true:=bne_iff_ne.mpr c3
  have c3b2:(l0.length == l1.length) = false:=by first|simpa using c3|(simp at c3 ⊢;omega)
  obtain rfl:=Option.some.inj H
  go_enter Tryd.func38,Tryd.ntmps38
  go_wp2
  repeat (go_quiet (fail);try go_wp2)
  go_ret
  exact ⟨by first|rfl|(simp;done)|(simp [*];done),by repeat (first|exact Drawn0.refl _|apply Drawn0.step)⟩
def foretelllaw_StepLetters.f (k:Nat) (l0_0:List (S74)) (l0_1:List (S68)) (l1:List (List (S94))) (a2:Int):Option (Bool):=(foretelllaw_models.f k l0_0 l0_1).bind fun bt354=>((foretelllaw_terms.f k l1).bind fun t360=>((step_Letter.f k bt354.1 bt354.2 t360 a2).bind fun bt363=>((foretellref_LetterOf.f k l0_0 l0_1 l1 a2).bind fun bt367=>(if bt363.2 = bt367.2 then ((foretelllaw_sameTruths.f k bt363.1 bt367.1).bind fun t371=>(some t371)) else (some false)))))
theorem foretelllaw_StepLetters.mono:∀ a0 a1 a2 a3 k,LeO (foretelllaw_StepLetters.f k a0 a1 a2 a3) (foretelllaw_StepLetters.f (k + 1) a0 a1 a2 a3):=by
 intro a0 a1 a2 a3 k
 unfold foretelllaw_StepLetters.f
 repeat' first
   | (with_reducible exact foretelllaw_models.mono _ _ _)
   | (with_reducible exact foretelllaw_sameTruths.mono _ _ _)
   | (with_reducible exact foretelllaw_terms.mono _ _)
   | (with_reducible exact foretellref_LetterOf.mono _ _ _ _ _)
   | (with_reducible exact step_Letter.mono _ _ _ _ _)
   | (with_reducible exact LeO.refl _)
   | (with_reducible exact LeO.none _)
   | (with_reducible refine LeO.ite ?_ ?_)
   | (with_reducible refine LeO.bind ?_ (fun _=>?_))
   | exact foretelllaw_models.mono _ _ _
   | exact foretelllaw_sameTruths.mono _ _ _
   | exact foretelllaw_terms.mono _ _
   | exact foretellref_LetterOf.mono _ _ _ _ _
   | exact step_Letter.mono _ _ _ _ _
   | exact LeO.none _
   | refine LeO.ite ?_ ?_
   | refine LeO.bind ?_ (fun _=>?_)
set_option maxHeartbeats 8000000 in
set_option maxRecDepth 100000 in
theorem foretelllaw_StepLetters.calls (k:Nat) (A0_0:Option Addr) (c0_0:Nat) (l0_0:List (S74)) (A0_1:Option Addr) (c0_1:Nat) (l0_1:List (S68)) (A1:Option Addr) (c1:Nat) (l1:List (List (S94))) (a2:Int) (r:Bool) (w:World) (hr0_0:Kd.C k74 w A0_0 l0_0.length l0_0) (hc0_0:l0_0.length ≤ c0_0) (hr0_1:Kd.C k68 w A0_1 l0_1.length l0_1) (hc0_1:l0_1.length ≤ c0_1) (hr1:Kd.C (Kd.slice 94 k94) w A1 l1.length l1) (hc1:l1.length ≤ c1) (hL:LaidG w) (h:foretelllaw_StepLetters.f k l0_0 l0_1 l1 a2 = some r) :
  Calls Tryd.prog 10 #[.agg #[.slice A0_0 l0_0.length c0_0,.slice A0_1 l0_1.length c0_1],.slice A1 l1.length c1,.int .i64 a2] w fun e w'=>e = .returned (.bool r)∧Below w.heap.size w w':=by
 have HLd:=zA hL
 clear hL
 have hu25:=Tryd.underlying25
 have HR0_0:=zA hr0_0
 have HC0_0:=zA hc0_0
 clear hr0_0 hc0_0
 have HR0_1:=zA hr0_1
 have HC0_1:=zA hc0_1
 clear hr0_1 hc0_1
 have HR1:=zA hr1
 have HC1:=zA hc1
 clear hr1 hc1
 have HB:=zA (Below.refl w.heap.size w)
 have H:((foretelllaw_models.f k l0_0 l0_1).bind fun bt354=>((foretelllaw_terms.f k l1).bind fun t360=>((step_Letter.f k bt354.1 bt354.2 t360 a2).bind fun bt363=>((foretellref_LetterOf.f k l0_0 l0_1 l1 a2).bind fun bt367=>(if bt363.2 = bt367.2 then ((foretelllaw_sameTruths.f k bt363.1 bt367.1).bind fun t371=>(some t371)) else (some false)))))) = some r:=h
 clear h
 replace H:=zb.mp H
 obtain ⟨⟨t354,t357⟩,A40,H⟩:=H
 replace H:((foretelllaw_terms.f k l1).bind fun t360=>((step_Letter.f k t354 t357 t360 a2).bind fun bt363=>((foretellref_LetterOf.f k l0_0 l0_1 l1 a2).bind fun bt367=>(if bt363.2 = bt367.2 then ((foretelllaw_sameTruths.f k bt363.1 bt367.1).bind fun t371=>(some t371)) else (some false))))) = some r:=H
 have A4:=zA A40
 clear A40
 replace H:=zb.mp H
 obtain ⟨t360,A50,H⟩:=H
 replace H:((step_Letter.f k t354 t357 t360 a2).bind fun bt363=>((foretellref_LetterOf.f k l0_0 l0_1 l1 a2).bind fun bt367=>(if bt363.2 = bt367.2 then ((foretelllaw_sameTruths.f k bt363.1 bt367.1).bind fun t371=>(some t371)) else (some false)))) = some r:=H
 have A5:=zA A50
 clear A50
 replace H:=zb.mp H
 obtain ⟨⟨t363,t366⟩,A60,H⟩:=H
 replace H:((foretellref_LetterOf.f k l0_0 l0_1 l1 a2).bind fun bt367=>(if t366 = bt367.2 then ((foretelllaw_sameTruths.f k t363 bt367.1).bind fun t371=>(some t371)) else (some false))) = some r:=H
 have A6:=zA A60
 clear A60
 replace H:=zb.mp H
 obtain ⟨⟨t367,t370⟩,A70,H⟩:=H
 replace H:(if t366 = t370 then ((foretelllaw_sameTruths.f k t363 t367).bind fun t371=>(some t371)) else (some false)) = some r:=H
 have A7:=zA A70
 clear A70
 by_cases c8:t366 = t370
 ·rw [if_pos c8] at H
  have c8b0:(t366 == t370) = true:=beq_iff_eq.mpr c8
  have c8b1:(t366 != t370) = false:=bne_eq_false_iff_eq.mpr c8
  clear c8
  replace H:=zb.mp H
  obtain ⟨t371,A90,H⟩:=H
  replace H:(some t371) = some r:=H
  have A9:=zA A90
  clear A90
  obtain rfl:=Option.some.inj H
  go_enter Tryd.func10,Tryd.ntmps10
  go_wp2_with (first|((with_reducible refine zV (N:=3) rfl ?_);refine zW ?hg (N:=3) ?hd (cs:=#[.slice A0_0 l0_0.length c0_0,.slice A0_1 l0_1.length c0_1]) (t:=25) ?hr ?_;(case hd=>rfl);(case hg=>rfl);(case hr=>first|(go_simp;done)|(go_simp;rfl));intro gb353 hg w10 hbox hb;have n0_:=zA (zH (by repeat (first|(with_reducible first|exact HB.out|apply zD|apply zC|apply zE)|exact HB.out)) hb);have n1_:=zA (hbox);have n2_:=zA ((by rw [hg];exact (zG (by repeat (first|(with_reducible first|exact HB.out|apply zD|apply zC|apply zE)|exact HB.out))):w.heap.size ≤ gb353));have n3_:=zA ((by rw [hg];exact (zG (by repeat (first|(with_reducible first|exact HB.out|apply zD|apply zC|apply zE)|exact HB.out))):w.heap.size ≤ gb353));clear HB;have HB:=n0_;have BK353:=n1_;have GW353:=n2_;have GE353:=n3_;clear n0_ n1_ n2_ n3_;clear hb hbox hg;have hcz11_0:w10.cell? ⟨gb353,0,none⟩ = some (.slice A0_0 l0_0.length c0_0):=(zI BK353.out 0).trans rfl;have hcz11_1:w10.cell? ⟨gb353,1,none⟩ = some (.slice A0_1 l0_1.length c0_1):=(zI BK353.out 1).trans rfl;have hfz11_0:=zJ BK353.out 0;have hfz11_1:=zJ BK353.out 1)|((with_reducible refine zU (f:=15) rfl ?_);refine goesL_ (some 13) rfl rfl Tryd.func15 (by kernel_rfl) rfl #[.agg #[.slice A0_0 l0_0.length c0_0,.slice A0_1 l0_1.length c0_1]] rfl (by (try simp only [zx,zy,zz]);first|done|rfl|(simp only [zd,zt];rfl)) ?_;(with_reducible refine (foretelllaw_models.calls k _ _ l0_0 _ _ l0_1 t354 t357 _ ?side1 ?side2 ?side3 ?side4 A4.out).mono ?_);(case side1=>repeat (first|exact (zT HR0_0.out HB.out)|(with_reducible refine Kd.C_alloc ?_ _)|(with_reducible refine Kd.C_drewN ?_ _)|(with_reducible refine Kd.C_drew ?_)));(case side2=>exact HC0_0.out);(case side3=>repeat (first|exact (zT HR0_1.out HB.out)|(with_reducible refine Kd.C_alloc ?_ _)|(with_reducible refine Kd.C_drewN ?_ _)|(with_reducible refine Kd.C_drew ?_)));(case side4=>exact HC0_1.out);rintro e w12 ⟨v355,v358,rfl,ho0,ho1,hb⟩;refine ⟨_,rfl,?_⟩;have n0_:=zA (Kd.R_lower ho0 (zG (by repeat (first|(with_reducible first|exact HB.out|apply zD|apply zC|apply zE|refine zF ?_ GE353.out)|exact HB.out))));have n1_:=zA (Kd.R_lower ho1 (zG (by repeat (first|(with_reducible first|exact HB.out|apply zD|apply zC|apply zE|refine zF ?_ GE353.out)|exact HB.out))));have n2_:=zA (zN (g:=gb353) (o:=.cells #[.slice A0_0 l0_0.length c0_0,.slice A0_1 l0_1.length c0_1] 25 (0,0)) (by (with_reducible repeat (first|refine zL ?_ _|refine zM ?_|refine zK ?_ _));exact BK353.out) hb);have n3_:=zA (zH (by repeat (first|(with_reducible first|exact HB.out|apply zD|apply zC|apply zE|refine zF ?_ GE353.out)|exact HB.out)) hb);clear BK353;clear HB;have HO356:=n0_;have HO359:=n1_;have BK353:=n2_;have HB:=n3_;clear n0_ n1_ n2_ n3_;(try clear hb);(try clear hb2);(try clear hk);(try clear hi);(try clear ho0);(try clear ho1))|((with_reducible refine zU (f:=22) rfl ?_);refine goesL_ (some 15) rfl rfl Tryd.func22 (by kernel_rfl) rfl #[.slice A1 l1.length c1] rfl (by (try simp only [zx,zy,zz]);first|done|rfl|(simp only [zd,zt];rfl)) ?_;(with_reducible refine (foretelllaw_terms.calls k _ _ l1 t360 _ ?side1 ?side2 A5.out).mono ?_);(case side1=>repeat (first|exact (zT HR1.out HB.out)|(with_reducible refine Kd.C_alloc ?_ _)|(with_reducible refine Kd.C_drewN ?_ _)|(with_reducible refine Kd.C_drew ?_)));(case side2=>exact HC1.out);rintro e w13 ⟨v361,rfl,ho0,hb⟩;refine ⟨_,rfl,?_⟩;have n0_:=zA (Kd.R_below (by (with_reducible repeat (first|apply Kd.R_alloc|apply Kd.R_drewN|apply Kd.R_drew));exact HO356.out) hb);have n1_:=zA (Kd.R_below (by (with_reducible repeat (first|apply Kd.R_alloc|apply Kd.R_drewN|apply Kd.R_drew));exact HO359.out) hb);have n2_:=zA (Kd.S_lower ho0 (zG (by repeat (first|(with_reducible first|exact HB.out|apply zD|apply zC|apply zE|refine zF ?_ GE353.out)|exact HB.out))));have n3_:=zA (zN (g:=gb353) (o:=.cells #[.slice A0_0 l0_0.length c0_0,.slice A0_1 l0_1.length c0_1] 25 (0,0)) (by (with_reducible repeat (first|refine zL ?_ _|refine zM ?_|refine zK ?_ _));exact BK353.out) hb);have n4_:=zA (zH (by repeat (first|(with_reducible first|exact HB.out|apply zD|apply zC|apply zE|refine zF ?_ GE353.out)|exact HB.out)) hb);clear HO356;clear HO359;clear BK353;clear HB;have HO356:=n0_;have HO359:=n1_;have HO362:=n2_;have BK353:=n3_;have HB:=n4_;clear n0_ n1_ n2_ n3_ n4_;(try clear hb);(try clear hb2);(try clear hk);(try clear hi);(try clear ho0);obtain ⟨Ao14,co14,eo14⟩:=Kd.R_slice HO356.out;subst eo14;obtain ⟨Ao15,co15,eo15⟩:=Kd.R_slice HO359.out;subst eo15;obtain ⟨Ao16,co16,eo16⟩:=Kd.S_slice HO362.out;subst eo16)|((with_reducible refine zU (f:=36) rfl ?_);refine goesL_ (some 17) rfl rfl Tryd.func36 (by kernel_rfl) rfl #[.agg #[.slice Ao14 t354.length co14,.slice Ao15 t357.length co15],.slice Ao16 t360.length co16,.int .i64 a2] rfl (by (try simp only [zx,zy,zz]);first|done|rfl|(simp only [zd,zt];rfl)) ?_;(with_reducible refine (step_Letter.calls k _ _ t354 _ _ t357 _ _ t360 a2 t363 t366 _ ?side1 ?side2 ?side3 ?side4 ?side5 ?side6 ?side7 A6.out).mono ?_);(case side1=>repeat (first|exact (Kd.R_reads' HO356.out).2.2|(with_reducible refine Kd.C_alloc ?_ _)|(with_reducible refine Kd.C_drewN ?_ _)|(with_reducible refine Kd.C_drew ?_)));(case side2=>exact (Kd.R_reads' HO356.out).2.1);(case side3=>repeat (first|exact (Kd.R_reads' HO359.out).2.2|(with_reducible refine Kd.C_alloc ?_ _)|(with_reducible refine Kd.C_drewN ?_ _)|(with_reducible refine Kd.C_drew ?_)));(case side4=>exact (Kd.R_reads' HO359.out).2.1);(case side5=>repeat (first|exact (Kd.S_reads' HO362.out).2.2|(with_reducible refine Kd.C_alloc ?_ _)|(with_reducible refine Kd.C_drewN ?_ _)|(with_reducible refine Kd.C_drew ?_)));(case side6=>exact (Kd.S_reads' HO362.out).2.1);(case side7=>first|exact LaidG.below HLd.out (by repeat (first|(with_reducible first|exact HB.out|apply zD|apply zC|apply zE|refine zF ?_ GE353.out)|exact HB.out))|(refine LaidG.below HLd.out ?_;repeat (with_reducible first|exact HB.out|exact Below.refl _ _|apply zD|apply zC|apply zE);done));rintro e w17 ⟨v364,rfl,ho0,hb⟩;refine ⟨_,rfl,?_⟩;have n0_:=zA (Kd.R_below (by (with_reducible repeat (first|apply Kd.R_alloc|apply Kd.R_drewN|apply Kd.R_drew));exact HO356.out) hb);have n1_:=zA (Kd.R_below (by (with_reducible repeat (first|apply Kd.R_alloc|apply Kd.R_drewN|apply Kd.R_drew));exact HO359.out) hb);have n2_:=zA (Kd.S_below (by (with_reducible repeat (first|apply Kd.S_alloc|apply Kd.S_drewN|apply Kd.S_drew));exact HO362.out) hb);have n3_:=zA (Kd.R_lower ho0 (zG (by repeat (first|(with_reducible first|exact HB.out|apply zD|apply zC|apply zE|refine zF ?_ GE353.out)|exact HB.out))));have n4_:=zA (zN (g:=gb353) (o:=.cells #[.slice A0_0 l0_0.length c0_0,.slice A0_1 l0_1.length c0_1] 25 (0,0)) (by (with_reducible repeat (first|refine zL ?_ _|refine zM ?_|refine zK ?_ _));exact BK353.out) hb);have n5_:=zA (zH (by repeat (first|(with_reducible first|exact HB.out|apply zD|apply zC|apply zE|refine zF ?_ GE353.out)|exact HB.out)) hb);clear HO356;clear HO359;clear HO362;clear BK353;clear HB;have HO356:=n0_;have HO359:=n1_;have HO362:=n2_;have HO365:=n3_;have BK353:=n4_;have HB:=n5_;clear n0_ n1_ n2_ n3_ n4_ n5_;(try clear hb);(try clear hb2);(try clear hk);(try clear hi);(try clear ho0);have hcz18_0:w17.cell? ⟨gb353,0,none⟩ = some (.slice A0_0 l0_0.length c0_0):=(zI BK353.out 0).trans rfl;have hcz18_1:w17.cell? ⟨gb353,1,none⟩ = some (.slice A0_1 l0_1.length c0_1):=(zI BK353.out 1).trans rfl;have hfz18_0:=zJ BK353.out 0;have hfz18_1:=zJ BK353.out 1)|((with_reducible refine zU (f:=37) rfl ?_);refine goesL_ (some 24) rfl rfl Tryd.func37 (by kernel_rfl) rfl #[.agg #[.slice A0_0 l0_0.length c0_0,.slice A0_1 l0_1.length c0_1],.slice A1 l1.length c1,.int .i64 a2] rfl (by (try simp only [zx,zy,zz]);first|done|rfl|(simp only [zd,zt];rfl)) ?_;(with_reducible refine (foretellref_LetterOf.calls k _ _ l0_0 _ _ l0_1 _ _ l1 a2 t367 t370 _ ?side1 ?side2 ?side3 ?side4 ?side5 ?side6 A7.out).mono ?_);(case side1=>repeat (first|exact (zT HR0_0.out HB.out)|(with_reducible refine Kd.C_alloc ?_ _)|(with_reducible refine Kd.C_drewN ?_ _)|(with_reducible refine Kd.C_drew ?_)));(case side2=>exact HC0_0.out);(case side3=>repeat (first|exact (zT HR0_1.out HB.out)|(with_reducible refine Kd.C_alloc ?_ _)|(with_reducible refine Kd.C_drewN ?_ _)|(with_reducible refine Kd.C_drew ?_)));(case side4=>exact HC0_1.out);(case side5=>repeat (first|exact (zT HR1.out HB.out)|(with_reducible refine Kd.C_alloc ?_ _)|(with_reducible refine Kd.C_drewN ?_ _)|(with_reducible refine Kd.C_drew ?_)));(case side6=>exact HC1.out);rintro e w19 ⟨v368,rfl,ho0,hb⟩;refine ⟨_,rfl,?_⟩;have n0_:=zA (Kd.R_below (by (with_reducible repeat (first|apply Kd.R_alloc|apply Kd.R_drewN|apply Kd.R_drew));exact HO356.out) hb);have n1_:=zA (Kd.R_below (by (with_reducible repeat (first|apply Kd.R_alloc|apply Kd.R_drewN|apply Kd.R_drew));exact HO359.out) hb);have n2_:=zA (Kd.S_below (by (with_reducible repeat (first|apply Kd.S_alloc|apply Kd.S_drewN|apply Kd.S_drew));exact HO362.out) hb);have n3_:=zA (Kd.R_elder' (by (with_reducible repeat (first|apply Kd.R_alloc|apply Kd.R_drewN|apply Kd.R_drew));exact HO365.out) (Kd.R_base ho0) hb);have n4_:=zA (Kd.R_lower (Kd.R_new' ho0 (Kd.R_lt (by (with_reducible repeat (first|apply Kd.R_alloc|apply Kd.R_drewN|apply Kd.R_drew));exact HO365.out))) (zG (by repeat (first|(with_reducible first|exact HB.out|apply zD|apply zC|apply zE|refine zF ?_ GE353.out)|exact HB.out))));have n5_:=zA (zN (g:=gb353) (o:=.cells #[.slice A0_0 l0_0.length c0_0,.slice A0_1 l0_1.length c0_1] 25 (0,0)) (by (with_reducible repeat (first|refine zL ?_ _|refine zM ?_|refine zK ?_ _));exact BK353.out) hb);have n6_:=zA (zH (by repeat (first|(with_reducible first|exact HB.out|apply zD|apply zC|apply zE|refine zF ?_ GE353.out)|exact HB.out)) hb);clear HO356;clear HO359;clear HO362;clear HO365;clear BK353;clear HB;have HO356:=n0_;have HO359:=n1_;have HO362:=n2_;have HO365:=n3_;have HO369:=n4_;have BK353:=n5_;have HB:=n6_;clear n0_ n1_ n2_ n3_ n4_ n5_ n6_;(try clear hb);(try clear hb2);(try clear hk);(try clear hi);(try clear ho0);obtain ⟨Ao20,co20,eo20⟩:=Kd.R_slice HO365.out;subst eo20;obtain ⟨Ao21,co21,eo21⟩:=Kd.R_slice HO369.out;subst eo21)|(go_at_call 38;(with_reducible refine (foretelllaw_sameTruths.calls k _ _ t363 _ _ t367 t371 _ ?side1 ?side2 ?side3 ?side4 A9.out).mono ?_);(case side1=>repeat (first|exact (Kd.R_reads' HO365.out).2.2|(with_reducible refine Kd.C_alloc ?_ _)|(with_reducible refine Kd.C_drewN ?_ _)|(with_reducible refine Kd.C_drew ?_)));(case side2=>exact (Kd.R_reads' HO365.out).2.1);(case side3=>repeat (first|exact (Kd.R_reads' HO369.out).2.2|(with_reducible refine Kd.C_alloc ?_ _)|(with_reducible refine Kd.C_drewN ?_ _)|(with_reducible refine Kd.C_drew ?_)));(case side4=>exact (Kd.R_reads' HO369.out).2.1);rintro e w' ⟨rfl,⟨nd,rfl⟩⟩))
  go_ret
  exact ⟨by first|rfl|(simp [errW_none,errW_some] <;> rfl)|(simp [*,errW_none,errW_some] <;> rfl),by repeat (first|(with_reducible first|exact HB.out|apply zD|apply zC|apply zE|refine zF ?_ GE353.out)|exact HB.out)⟩
 ·rw [if_neg c8] at H
  have c8b0:(t366 == t370) = false:=beq_eq_false_iff_ne.mpr c8
  have c8b1:(t366 != t370) = true:=bne_iff_ne.mpr c8
  obtain rfl:=Option.some.inj H
  go_enter Tryd.func10,Tryd.ntmps10
  go_wp2_with (first|((with_reducible refine zV (N:=3) rfl ?_);refine zW ?hg (N:=3) ?hd (cs:=#[.slice A0_0 l0_0.length c0_0,.slice A0_1 l0_1.length c0_1]) (t:=25) ?hr ?_;(case hd=>rfl);(case hg=>rfl);(case hr=>first|(go_simp;done)|(go_simp;rfl));intro gb353 hg w22 hbox hb;have n0_:=zA (zH (by repeat (first|(with_reducible first|exact HB.out|apply zD|apply zC|apply zE)|exact HB.out)) hb);have n1_:=zA (hbox);have n2_:=zA ((by rw [hg];exact (zG (by repeat (first|(with_reducible first|exact HB.out|apply zD|apply zC|apply zE)|exact HB.out))):w.heap.size ≤ gb353));have n3_:=zA ((by rw [hg];exact (zG (by repeat (first|(with_reducible first|exact HB.out|apply zD|apply zC|apply zE)|exact HB.out))):w.heap.size ≤ gb353));clear HB;have HB:=n0_;have BK353:=n1_;have GW353:=n2_;have GE353:=n3_;clear n0_ n1_ n2_ n3_;clear hb hbox hg;have hcz23_0:w22.cell? ⟨gb353,0,none⟩ = some (.slice A0_0 l0_0.length c0_0):=(zI BK353.out 0).trans rfl;have hcz23_1:w22.cell? ⟨gb353,1,none⟩ = some (.slice A0_1 l0_1.length c0_1):=(zI BK353.out 1).trans rfl;have hfz23_0:=zJ BK353.out 0;have hfz23_1:=zJ BK353.out 1)|((with_reducible refine zU (f:=15) rfl ?_);refine goesL_ (some 13) rfl rfl Tryd.func15 (by kernel_rfl) rfl #[.agg #[.slice A0_0 l0_0.length c0_0,.slice A0_1 l0_1.length c0_1]] rfl (by (try simp only [zx,zy,zz]);first|done|rfl|(simp only [zd,zt];rfl)) ?_;(with_reducible refine (foretelllaw_models.calls k _ _ l0_0 _ _ l0_1 t354 t357 _ ?side1 ?side2 ?side3 ?side4 A4.out).mono ?_);(case side1=>repeat (first|exact (zT HR0_0.out HB.out)|(with_reducible refine Kd.C_alloc ?_ _)|(with_reducible refine Kd.C_drewN ?_ _)|(with_reducible refine Kd.C_drew ?_)));(case side2=>exact HC0_0.out);(case side3=>repeat (first|exact (zT HR0_1.out HB.out)|(with_reducible refine Kd.C_alloc ?_ _)|(with_reducible refine Kd.C_drewN ?_ _)|(with_reducible refine Kd.C_drew ?_)));(case side4=>exact HC0_1.out);rintro e w24 ⟨v355,v358,rfl,ho0,ho1,hb⟩;refine ⟨_,rfl,?_⟩;have n0_:=zA (Kd.R_lower ho0 (zG (by repeat (first|(with_reducible first|exact HB.out|apply zD|apply zC|apply zE|refine zF ?_ GE353.out)|exact HB.out))));have n1_:=zA (Kd.R_lower ho1 (zG (by repeat (first|(with_reducible first|exact HB.out|apply zD|apply zC|apply zE|refine zF ?_ GE353.out)|exact HB.out))));have n2_:=zA (zN (g:=gb353) (o:=.cells #[.slice A0_0 l0_0.length c0_0,.slice A0_1 l0_1.length c0_1] 25 (0,0)) (by (with_reducible repeat (first|refine zL ?_ _|refine zM ?_|refine zK ?_ _));exact BK353.out) hb);have n3_:=zA (zH (by repeat (first|(with_reducible first|exact HB.out|apply zD|apply zC|apply zE|refine zF ?_ GE353.out)|exact HB.out)) hb);clear BK353;clear HB;have HO356:=n0_;have HO359:=n1_;have BK353:=n2_;have HB:=n3_;clear n0_ n1_ n2_ n3_;(try clear hb);(try clear hb2);(try clear hk);(try clear hi);(try clear ho0);(try clear ho1))|((with_reducible refine zU (f:=22) rfl ?_);refine goesL_ (some 15) rfl rfl Tryd.func22 (by kernel_rfl) rfl #[.slice A1 l1.length c1] rfl (by (try simp only [zx,zy,zz]);first|done|rfl|(simp only [zd,zt];rfl)) ?_;(with_reducible refine (foretelllaw_terms.calls k _ _ l1 t360 _ ?side1 ?side2 A5.out).mono ?_);(case side1=>repeat (first|exact (zT HR1.out HB.out)|(with_reducible refine Kd.C_alloc ?_ _)|(with_reducible refine Kd.C_drewN ?_ _)|(with_reducible refine Kd.C_drew ?_)));(case side2=>exact HC1.out);rintro e w25 ⟨v361,rfl,ho0,hb⟩;refine ⟨_,rfl,?_⟩;have n0_:=zA (Kd.R_below (by (with_reducible repeat (first|apply Kd.R_alloc|apply Kd.R_drewN|apply Kd.R_drew));exact HO356.out) hb);have n1_:=zA (Kd.R_below (by (with_reducible repeat (first|apply Kd.R_alloc|apply Kd.R_drewN|apply Kd.R_drew));exact HO359.out) hb);have n2_:=zA (Kd.S_lower ho0 (zG (by repeat (first|(with_reducible first|exact HB.out|apply zD|apply zC|apply zE|refine zF ?_ GE353.out)|exact HB.out))));have n3_:=zA (zN (g:=gb353) (o:=.cells #[.slice A0_0 l0_0.length c0_0,.slice A0_1 l0_1.length c0_1] 25 (0,0)) (by (with_reducible repeat (first|refine zL ?_ _|refine zM ?_|refine zK ?_ _));exact BK353.out) hb);have n4_:=zA (zH (by repeat (first|(with_reducible first|exact HB.out|apply zD|apply zC|apply zE|refine zF ?_ GE353.out)|exact HB.out)) hb);clear HO356;clear HO359;clear BK353;clear HB;have HO356:=n0_;have HO359:=n1_;have HO362:=n2_;have BK353:=n3_;have HB:=n4_;clear n0_ n1_ n2_ n3_ n4_;(try clear hb);(try clear hb2);(try clear hk);(try clear hi);(try clear ho0);obtain ⟨Ao26,co26,eo26⟩:=Kd.R_slice HO356.out;subst eo26;obtain ⟨Ao27,co27,eo27⟩:=Kd.R_slice HO359.out;subst eo27;obtain ⟨Ao28,co28,eo28⟩:=Kd.S_slice HO362.out;subst eo28)|((with_reducible refine zU (f:=36) rfl ?_);refine goesL_ (some 17) rfl rfl Tryd.func36 (by kernel_rfl) rfl #[.agg #[.slice Ao26 t354.length co26,.slice Ao27 t357.length co27],.slice Ao28 t360.length co28,.int .i64 a2] rfl (by (try simp only [zx,zy,zz]);first|done|rfl|(simp only [zd,zt];rfl)) ?_;(with_reducible refine (step_Letter.calls k _ _ t354 _ _ t357 _ _ t360 a2 t363 t366 _ ?side1 ?side2 ?side3 ?side4 ?side5 ?side6 ?side7 A6.out).mono ?_);(case side1=>repeat (first|exact (Kd.R_reads' HO356.out).2.2|(with_reducible refine Kd.C_alloc ?_ _)|(with_reducible refine Kd.C_drewN ?_ _)|(with_reducible refine Kd.C_drew ?_)));(case side2=>exact (Kd.R_reads' HO356.out).2.1);(case side3=>repeat (first|exact (Kd.R_reads' HO359.out).2.2|(with_reducible refine Kd.C_alloc ?_ _)|(with_reducible refine Kd.C_drewN ?_ _)|(with_reducible refine Kd.C_drew ?_)));(case side4=>exact (Kd.R_reads' HO359.out).2.1);(case side5=>repeat (first|exact (Kd.S_reads' HO362.out).2.2|(with_reducible refine Kd.C_alloc ?_ _)|(with_reducible refine Kd.C_drewN ?_ _)|(with_reducible refine Kd.C_drew ?_)));(case side6=>exact (Kd.S_reads' HO362.out).2.1);(case side7=>first|exact LaidG.below HLd.out (by repeat (first|(with_reducible first|exact HB.out|apply zD|apply zC|apply zE|refine zF ?_ GE353.out)|exact HB.out))|(refine LaidG.below HLd.out ?_;repeat (with_reducible first|exact HB.out|exact Below.refl _ _|apply zD|apply zC|apply zE);done));rintro e w29 ⟨v364,rfl,ho0,hb⟩;refine ⟨_,rfl,?_⟩;have n0_:=zA (Kd.R_below (by (with_reducible repeat (first|apply Kd.R_alloc|apply Kd.R_drewN|apply Kd.R_drew));exact HO356.out) hb);have n1_:=zA (Kd.R_below (by (with_reducible repeat (first|apply Kd.R_alloc|apply Kd.R_drewN|apply Kd.R_drew));exact HO359.out) hb);have n2_:=zA (Kd.S_below (by (with_reducible repeat (first|apply Kd.S_alloc|apply Kd.S_drewN|apply Kd.S_drew));exact HO362.out) hb);have n3_:=zA (Kd.R_lower ho0 (zG (by repeat (first|(with_reducible first|exact HB.out|apply zD|apply zC|apply zE|refine zF ?_ GE353.out)|exact HB.out))));have n4_:=zA (zN (g:=gb353) (o:=.cells #[.slice A0_0 l0_0.length c0_0,.slice A0_1 l0_1.length c0_1] 25 (0,0)) (by (with_reducible repeat (first|refine zL ?_ _|refine zM ?_|refine zK ?_ _));exact BK353.out) hb);have n5_:=zA (zH (by repeat (first|(with_reducible first|exact HB.out|apply zD|apply zC|apply zE|refine zF ?_ GE353.out)|exact HB.out)) hb);clear HO356;clear HO359;clear HO362;clear BK353;clear HB;have HO356:=n0_;have HO359:=n1_;have HO362:=n2_;have HO365:=n3_;have BK353:=n4_;have HB:=n5_;clear n0_ n1_ n2_ n3_ n4_ n5_;(try clear hb);(try clear hb2);(try clear hk);(try clear hi);(try clear ho0);have hcz30_0:w29.cell? ⟨gb353,0,none⟩ = some (.slice A0_0 l0_0.length c0_0):=(zI BK353.out 0).trans rfl;have hcz30_1:w29.cell? ⟨gb353,1,none⟩ = some (.slice A0_1 l0_1.length c0_1):=(zI BK353.out 1).trans rfl;have hfz30_0:=zJ BK353.out 0;have hfz30_1:=zJ BK353.out 1)|((with_reducible refine zU (f:=37) rfl ?_);refine goesL_ (some 24) rfl rfl Tryd.func37 (by kernel_rfl) rfl #[.agg #[.slice A0_0 l0_0.length c0_0,.slice A0_1 l0_1.length c0_1],.slice A1 l1.length c1,.int .i64 a2] rfl (by (try simp only [zx,zy,zz]);first|done|rfl|(simp only [zd,zt];rfl)) ?_;(with_reducible refine (foretellref_LetterOf.calls k _ _ l0_0 _ _ l0_1 _ _ l1 a2 t367 t370 _ ?side1 ?side2 ?side3 ?side4 ?side5 ?side6 A7.out).mono ?_);(case side1=>repeat (first|exact (zT HR0_0.out HB.out)|(with_reducible refine Kd.C_alloc ?_ _)|(with_reducible refine Kd.C_drewN ?_ _)|(with_reducible refine Kd.C_drew ?_)));(case side2=>exact HC0_0.out);(case side3=>repeat (first|exact (zT HR0_1.out HB.out)|(with_reducible refine Kd.C_alloc ?_ _)|(with_reducible refine Kd.C_drewN ?_ _)|(with_reducible refine Kd.C_drew ?_)));(case side4=>exact HC0_1.out);(case side5=>repeat (first|exact (zT HR1.out HB.out)|(with_reducible refine Kd.C_alloc ?_ _)|(with_reducible refine Kd.C_drewN ?_ _)|(with_reducible refine Kd.C_drew ?_)));(case side6=>exact HC1.out);rintro e w31 ⟨v368,rfl,ho0,hb⟩;refine ⟨_,rfl,?_⟩;have n0_:=zA (Kd.R_below (by (with_reducible repeat (first|apply Kd.R_alloc|apply Kd.R_drewN|apply Kd.R_drew));exact HO356.out) hb);have n1_:=zA (Kd.R_below (by (with_reducible repeat (first|apply Kd.R_alloc|apply Kd.R_drewN|apply Kd.R_drew));exact HO359.out) hb);have n2_:=zA (Kd.S_below (by (with_reducible repeat (first|apply Kd.S_alloc|apply Kd.S_drewN|apply Kd.S_drew));exact HO362.out) hb);have n3_:=zA (Kd.R_elder' (by (with_reducible repeat (first|apply Kd.R_alloc|apply Kd.R_drewN|apply Kd.R_drew));exact HO365.out) (Kd.R_base ho0) hb);have n4_:=zA (Kd.R_lower (Kd.R_new' ho0 (Kd.R_lt (by (with_reducible repeat (first|apply Kd.R_alloc|apply Kd.R_drewN|apply Kd.R_drew));exact HO365.out))) (zG (by repeat (first|(with_reducible first|exact HB.out|apply zD|apply zC|apply zE|refine zF ?_ GE353.out)|exact HB.out))));have n5_:=zA (zN (g:=gb353) (o:=.cells #[.slice A0_0 l0_0.length c0_0,.slice A0_1 l0_1.length c0_1] 25 (0,0)) (by (with_reducible repeat (first|refine zL ?_ _|refine zM ?_|refine zK ?_ _));exact BK353.out) hb);have n6_:=zA (zH (by repeat (first|(with_reducible first|exact HB.out|apply zD|apply zC|apply zE|refine zF ?_ GE353.out)|exact HB.out)) hb);clear HO356;clear HO359;clear HO362;clear HO365;clear BK353;clear HB;have HO356:=n0_;have HO359:=n1_;have HO362:=n2_;have HO365:=n3_;have HO369:=n4_;have BK353:=n5_;have HB:=n6_;clear n0_ n1_ n2_ n3_ n4_ n5_ n6_;(try clear hb);(try clear hb2);(try clear hk);(try clear hi);(try clear ho0)))
  go_ret
  exact ⟨by first|rfl|(simp [errW_none,errW_some] <;> rfl)|(simp [*,errW_none,errW_some] <;> rfl),by repeat (first|(with_reducible first|exact HB.out|apply zD|apply zC|apply zE|refine zF ?_ GE353.out)|exact HB.out)⟩
end Go.Proofs.YtkpddelnkjjflaaDoor.M
