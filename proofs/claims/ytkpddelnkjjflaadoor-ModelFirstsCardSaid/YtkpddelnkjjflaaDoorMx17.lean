-- WRITTEN by this session's own program (wip/pp.py) over the translation. Not trusted: Lean checks it.
import Derived.Test.YtkpddelnkjjflaaDoorMx0
import Derived.Test.YtkpddelnkjjflaaDoorMx3
import Derived.Test.YtkpddelnkjjflaaDoorMx10
namespace Go.Proofs.YtkpddelnkjjflaaDoor.M
open Go.Proofs.YtkpddelnkjjflaaDoor.Al
open Go.World renaming block_lt_of_cell? → zB
open Nat renaming lt_of_lt_of_le → zS
open Option renaming bind_eq_some_iff → zb
open List renaming setIfInBounds_toArray → zX, set_cons_zero → zY, set_cons_succ → zZ, map_toArray → zx, map_cons → zy, map_nil → zz, length_drop → zd, length_take → zt
open Go.Proofs.YtkpddelnkjjflaaDoorW.PrintWords renaming pw_below_drewN → zC, below_alloc → zD, below_drew1 → zE, below_set → zF, below_size → zG, below_step → zH, blk_cell → zI, blk_frozen → zJ, blk_alloc → zK, blk_drewN → zL, blk_drew → zM, blk_below → zN, blk_put → zO, Kd.C_below → zT, gate_callee → zU, gate_dst → zV, box_event → zW
open Go.RowKit Go.Proofs.YtkpddelnkjjflaaDoorW.PrintWords Go.Proofs.YtkpddelnkjjflaaDoorW.PrintLast Go.Proofs.YtkpddelnkjjflaaDoorW.PrintMore
attribute [local go_sem] max2_int min2_int max_two min_two max_three min_three max_four min_four   -- for this text's walks alone
set_option linter.unusedVariables false
set_option linter.unusedSimpArgs false

/-! ### model_First: function 28 -/
def model_First.l0:Nat → List Int → List (S74) → Int → Int → List (S74) → List (S68) → Option (Int × Int)
 | 0,_,_,_,_,_,_=>none
 | k + 1,x4,x8,x9,x10,x351000,x351001=>if x10 < x9 then (if 0 ≤ x10 then (if x10 < (x8.length:Int) then (if x4.length < 17592186044416 then (model_First.l0 k (x4 ++ [(rd_T74 x8 x10).f3]) x8 x9 (wrap64 (x10 + 1)) x351000 x351001) else (none)) else (none)) else (none)) else ((model_Code.f k x351000 x351001 x4).bind fun bt356=>(some (bt356.1,bt356.2)))
def model_First.f (k:Nat) (l0_0:List (S74)) (l0_1:List (S68)):Option (Int × Int):=model_First.l0 k ([]:List Int) l0_0 (l0_0.length:Int) 0 l0_0 l0_1
theorem model_First.mono_l:∀ k,(∀ y0 y1 y2 y3 y4 y5,LeO (model_First.l0 k y0 y1 y2 y3 y4 y5) (model_First.l0 (k + 1) y0 y1 y2 y3 y4 y5))
 | 0=>fun _ _ _ _ _ _ r h=>by simp [model_First.l0] at h
 | k + 1=>by
  have ih0:=model_First.mono_l k
  ·intro y0 y1 y2 y3 y4 y5
   unfold model_First.l0
   repeat' first
   | (with_reducible exact ih0 _ _ _ _ _ _)
   | (with_reducible exact model_Code.mono _ _ _ _)
   | (with_reducible exact LeO.refl _)
   | (with_reducible exact LeO.none _)
   | (with_reducible refine LeO.ite ?_ ?_)
   | (with_reducible refine LeO.bind ?_ (fun _=>?_))
   | exact ih0 _ _ _ _ _ _
   | exact model_Code.mono _ _ _ _
   | exact LeO.none _
   | refine LeO.ite ?_ ?_
   | refine LeO.bind ?_ (fun _=>?_)
theorem model_First.mono:∀ a0 a1 k,LeO (model_First.f k a0 a1) (model_First.f (k + 1) a0 a1):=by
 intro a0 a1 k
 have ih0:=model_First.mono_l k
 unfold model_First.f
 repeat' first
   | (with_reducible exact ih0 _ _ _ _ _ _)
   | (with_reducible exact model_Code.mono _ _ _ _)
   | (with_reducible exact LeO.refl _)
   | (with_reducible exact LeO.none _)
   | (with_reducible refine LeO.ite ?_ ?_)
   | (with_reducible refine LeO.bind ?_ (fun _=>?_))
   | exact ih0 _ _ _ _ _ _
   | exact model_Code.mono _ _ _ _
   | exact LeO.none _
   | refine LeO.ite ?_ ?_
   | refine LeO.bind ?_ (fun _=>?_)
set_option maxHeartbeats 8000000 in
set_option maxRecDepth 100000 in
theorem model_First.calls (k:Nat) (A0_0:Option Addr) (c0_0:Nat) (l0_0:List (S74)) (A0_1:Option Addr) (c0_1:Nat) (l0_1:List (S68)) (r1:Int) (r2:Int) (w:World) (hr0_0:Kd.C k74 w A0_0 l0_0.length l0_0) (hc0_0:l0_0.length ≤ c0_0) (hr0_1:Kd.C k68 w A0_1 l0_1.length l0_1) (hc0_1:l0_1.length ≤ c0_1) (hL:LaidG w) (h:model_First.f k l0_0 l0_1 = some (r1,r2)) :
  Calls Tryd.prog 28 #[.agg #[.slice A0_0 l0_0.length c0_0,.slice A0_1 l0_1.length c0_1]] w fun e w'=>e = .returned (.tuple #[.int .i64 r1,.int .i64 r2])∧Below w.heap.size w w':=by
 have HLd:=zA hL
 clear hL
 have hu25:=Tryd.underlying25
 have hu74:=Tryd.underlying74
 have HR0_0:=zA hr0_0
 have HC0_0:=zA hc0_0
 clear hr0_0 hc0_0
 have HR0_1:=zA hr0_1
 have HC0_1:=zA hc0_1
 clear hr0_1 hc0_1
 have HB:=zA (Below.refl w.heap.size w)
 have H:(model_First.l0 k ([]:List Int) l0_0 (l0_0.length:Int) 0 l0_0 l0_1) = some (r1,r2):=h
 clear h
 have H':=zA H
 clear H
 go_enter Tryd.func28,Tryd.ntmps28
 go_wp2_with (first|((with_reducible refine zV (N:=1) rfl ?_);refine zW ?hg (N:=1) ?hd (cs:=#[.slice A0_0 l0_0.length c0_0,.slice A0_1 l0_1.length c0_1]) (t:=25) ?hr ?_;(case hd=>rfl);(case hg=>rfl);(case hr=>first|(go_simp;done)|(go_simp;rfl));intro gb350 hg w2 hbox hb;have n0_:=zA (zH (by repeat (first|(with_reducible first|exact HB.out|apply zD|apply zC|apply zE)|exact HB.out)) hb);have n1_:=zA (hbox);have n2_:=zA ((by rw [hg];exact (zG (by repeat (first|(with_reducible first|exact HB.out|apply zD|apply zC|apply zE)|exact HB.out))):w.heap.size ≤ gb350));have n3_:=zA ((by rw [hg];exact (zG (by repeat (first|(with_reducible first|exact HB.out|apply zD|apply zC|apply zE)|exact HB.out))):w.heap.size ≤ gb350));clear HB;have HB:=n0_;have BK350:=n1_;have GW350:=n2_;have GE350:=n3_;clear n0_ n1_ n2_ n3_;clear hb hbox hg;have hcz3_0:w2.cell? ⟨gb350,0,none⟩ = some (.slice A0_0 l0_0.length c0_0):=(zI BK350.out 0).trans rfl;have hcz3_1:w2.cell? ⟨gb350,1,none⟩ = some (.slice A0_1 l0_1.length c0_1):=(zI BK350.out 1).trans rfl;have hfz3_0:=zJ BK350.out 0;have hfz3_1:=zJ BK350.out 1))
 go_loopg [4,10] k (fun kq v4 v10 w'=>∃ (x4_1:List Int) (x10_1:Int),v10 = .int .i64 x10_1∧Aside0 (model_First.l0 kq x4_1 l0_0 (l0_0.length:Int) x10_1 l0_0 l0_1 = some (r1,r2))∧Aside0 (kq ≤ k)∧Aside0 (Kd.R (Kd.int .i64) 3 w' w.heap.size (fun _=>True) v4 x4_1)∧Aside0 (w'.heap[gb350]? = some (.cells #[(.slice A0_0 l0_0.length c0_0),(.slice A0_1 l0_1.length c0_1)] 25 (0,0)))∧Aside0 (Below w.heap.size w w'))
 case atStart=>exact ⟨(([]:List Int)),(0),(by first|rfl|(simp;done)|(simp [*];done)),H',⟨Nat.le_refl _⟩,⟨by first|exact Kd.R_nil _ _ _ _ _|exact Kd.N_nil _ _ _ _ _|exact Kd.V_nil _ _ _ _ _|exact Kd.Q_nil _ _ _ _ _|exact Kd.S_nil _ _ _ _ _⟩,⟨by (with_reducible repeat (first|refine zL ?_ _|refine zM ?_|refine zK ?_ _));exact BK350.out⟩,⟨by repeat (first|(with_reducible first|exact HB.out|apply zD|apply zC|apply zE|refine zF ?_ GE350.out)|exact HB.out)⟩⟩
 case round =>
  clear H'
  try clear c2
  try clear p2
  try clear hcz3_0
  try clear hcz3_1
  try clear hfz3_0
  try clear hfz3_1
  obtain ⟨x4_1,x10_1,rfl,HA,HK1,HO_4,BK350,HB⟩:=hrel
  cases gk with
  | zero=>exact absurd HA.out (by simp [model_First.l0])
  | succ k1 =>
   have H:=HA.out
   clear HA
   simp only [model_First.l0] at H
   by_cases c4:x10_1 < (l0_0.length:Int)
   ·rw [if_pos c4] at H
    have c4b0:decide (x10_1 < (l0_0.length:Int)) = true:=zQ c4
    clear c4
    by_cases c5:0 ≤ x10_1
    ·rw [if_pos c5] at H
     have c5b0:decide (0 ≤ x10_1) = true:=zQ c5
     clear c5
     by_cases c6:x10_1 < (l0_0.length:Int)
     ·rw [if_pos c6] at H
      have c6b0:decide (x10_1 < (l0_0.length:Int)) = true:=zQ c6
      clear c6
      by_cases c7:x4_1.length < 17592186044416
      ·rw [if_pos c7] at H
       have LMc7:=zA c7
       clear c7
       obtain ⟨y353,hy353⟩:∃ y_:List Int,y_ = (x4_1 ++ [(rd_T74 l0_0 x10_1).f3]):=⟨_,rfl⟩
       replace H:(model_First.l0 k1 y353 l0_0 (l0_0.length:Int) (wrap64 (x10_1 + 1)) l0_0 l0_1) = some (r1,r2):=by first|(rw [hy353];with_reducible exact H)|(have H2_:=(Option.bind_some _ _).symm.trans H;rw [hy353];with_reducible exact H2_)|(have H2_:=(Option.bind_some _ _).symm.trans H;with_reducible exact H2_)|with_reducible exact H|(rw [hy353];exact H)|exact H
       have Ny353:=zA hy353
       clear hy353
       have H':=zA H
       clear H
       have p351:0 ≤ (x10_1:Int):=zP (by assumption)
       have q351:x10_1 < (l0_0.length:Int):=zP (by assumption)
       obtain ⟨ad351,e351,hx351_0,hx351_1,hx351_2,hx351_3⟩:=at_T74 HR0_0.out x10_1 p351 q351
       cases e351
       replace hx351_0:=(HB.out.cell (zB w _ hx351_0)).trans hx351_0
       replace hx351_1:=(HB.out.cell (zB w _ hx351_1)).trans hx351_1
       replace hx351_2:=(HB.out.cell (zB w _ hx351_2)).trans hx351_2
       replace hx351_3:=(HB.out.cell (zB w _ hx351_3)).trans hx351_3
       replace p351:=eq_true p351
       replace q351:=eq_true q351
       go_wp2_with (first|((with_reducible refine zV (N:=6) rfl ?_);refine zW ?hg (N:=6) ?hd (cs:=#[.string (⟨#[]⟩:ByteArray),.int .i64 0,.int .i64 0,.int .i64 0]) (t:=74) ?hr ?_;(case hd=>rfl);(case hg=>rfl);(case hr=>first|(go_simp;done)|(go_simp;rfl));intro gb352 hg w8 hbox hb;have n0_:=zA (Kd.R_below (by (with_reducible repeat (first|apply Kd.R_alloc|apply Kd.R_drewN|apply Kd.R_drew));exact HO_4.out) hb);have n1_:=zA (zN (g:=gb350) (o:=.cells #[.slice (some ad351) l0_0.length c0_0,.slice A0_1 l0_1.length c0_1] 25 (0,0)) (by (with_reducible repeat (first|refine zL ?_ _|refine zM ?_|refine zK ?_ _));exact BK350.out) hb);have n2_:=zA (zH (by repeat (first|(with_reducible first|exact HB.out|apply zD|apply zC|apply zE|refine zF ?_ GE350.out)|exact HB.out)) hb);have n3_:=zA (hbox);have n4_:=zA ((by rw [hg];exact (zG (by repeat (first|(with_reducible first|exact HB.out|apply zD|apply zC|apply zE|refine zF ?_ GE350.out)|exact HB.out))):w.heap.size ≤ gb352));have n5_:=zA ((by rw [hg];exact (zG (by repeat (first|(with_reducible first|exact HB.out|apply zD|apply zC|apply zE|refine zF ?_ GE350.out)|exact HB.out))):w.heap.size ≤ gb352));have n6_:=zA ((by rw [hg];exact Nat.ne_of_lt (blk_lt (g:=gb350) (o:=.cells #[.slice (some ad351) l0_0.length c0_0,.slice A0_1 l0_1.length c0_1] 25 (0,0)) (by (with_reducible repeat (first|refine zL ?_ _|refine zM ?_|refine zK ?_ _));exact BK350.out)):gb350 ≠ gb352));have n7_:=zA ((by rw [hg];exact Nat.ne_of_gt (blk_lt (g:=gb350) (o:=.cells #[.slice (some ad351) l0_0.length c0_0,.slice A0_1 l0_1.length c0_1] 25 (0,0)) (by (with_reducible repeat (first|refine zL ?_ _|refine zM ?_|refine zK ?_ _));exact BK350.out)):gb352 ≠ gb350));clear HO_4;clear BK350;clear HB;have HO_4:=n0_;have BK350:=n1_;have HB:=n2_;have BK352:=n3_;have GW352:=n4_;have GE352:=n5_;have NB350_352:=n6_;have NB352_350:=n7_;clear n0_ n1_ n2_ n3_ n4_ n5_ n6_ n7_;clear hb hbox hg;have hnb9:=NB352_350.out;have hnc9:=NB350_352.out;have hcz10_0:w8.cell? ⟨gb352,0,none⟩ = some (.string (⟨#[]⟩:ByteArray)):=(zI BK352.out 0).trans rfl;have hcz10_1:w8.cell? ⟨gb352,1,none⟩ = some (.int .i64 0):=(zI BK352.out 1).trans rfl;have hcz10_2:w8.cell? ⟨gb352,2,none⟩ = some (.int .i64 0):=(zI BK352.out 2).trans rfl;have hcz10_3:w8.cell? ⟨gb352,3,none⟩ = some (.int .i64 0):=(zI BK352.out 3).trans rfl;have hfz10_0:=zJ BK352.out 0;have hfz10_1:=zJ BK352.out 1;have hfz10_2:=zJ BK352.out 2;have hfz10_3:=zJ BK352.out 3)|((with_reducible refine gate_builtin (b:=.append) (xs:=#[.tmp 14,.tmp 17]) rfl ?_);at_builtin;refine Kd.R_append (Kd.int .i64) (w0:=w) w.heap.size rfl (.tmp 14) (.tmp 17) 37 3 (.int .i64 0) 8 rfl Tryd.underlying37 info3 rfl (by decide) (by omega) u4 x4_1 ((rd_T74 l0_0 x10_1).f3) [.int .i64 ((rd_T74 l0_0 x10_1).f3)] (fun _=>True) (fun _=>False) rfl (by first|(go_simp;done)|(go_simp;rfl)) ?aP (fun _ hk=>hk.elim) ?aF ?aO ?aB ?aS ?aL ?_;(case aP=>exact rfl);(case aB=>exact (by repeat (first|(with_reducible first|exact HB.out|apply zD|apply zC|apply zE|refine zF ?_ GE350.out|refine zF ?_ GE352.out)|exact HB.out)));(case aF=>exact (fun _ _=>trivial));(case aO=>exact (by (with_reducible repeat (first|apply Kd.R_alloc|apply Kd.R_drewN|apply Kd.R_drew));exact Kd.R_mono (Kd.R_far (p:=⟨gb352,3,none⟩) (Kd.R_far (p:=⟨gb352,2,none⟩) (Kd.R_far (p:=⟨gb352,1,none⟩) (Kd.R_far (p:=⟨gb352,0,none⟩) (Kd.R_types HO_4.out BK352.out (by decide)) (fun _ hk=>hk.2) (.string ((rd_T74 l0_0 x10_1).f0))) (fun _ hk=>hk.2) (.int .i64 ((rd_T74 l0_0 x10_1).f1))) (fun _ hk=>hk.2) (.int .i64 ((rd_T74 l0_0 x10_1).f2))) (fun _ hk=>hk.2) (.int .i64 ((rd_T74 l0_0 x10_1).f3))) (fun _ hk=>trivial)));(case aS=>exact (zG (by repeat (first|(with_reducible first|exact HB.out|apply zD|apply zC|apply zE|refine zF ?_ GE350.out|refine zF ?_ GE352.out)|exact HB.out))));(case aL=>have:=LMc7.out;omega);intro v354 w11 ho hb hg hat;rw [← Ny353.out] at ho;have n0_:=zA (blk_grown (g:=gb350) (o:=.cells #[.slice (some ad351) l0_0.length c0_0,.slice A0_1 l0_1.length c0_1] 25 (0,0)) (by (with_reducible repeat (first|refine zL ?_ _|refine zM ?_|refine zK ?_ _));refine blk_far ?_ NB350_352.out _;(with_reducible repeat (first|refine zL ?_ _|refine zM ?_|refine zK ?_ _));refine blk_far ?_ NB350_352.out _;(with_reducible repeat (first|refine zL ?_ _|refine zM ?_|refine zK ?_ _));refine blk_far ?_ NB350_352.out _;(with_reducible repeat (first|refine zL ?_ _|refine zM ?_|refine zK ?_ _));refine blk_far ?_ NB350_352.out _;(with_reducible repeat (first|refine zL ?_ _|refine zM ?_|refine zK ?_ _));exact BK350.out) hg (Kd.R_ne HO_4.out BK350.out (by decide)));have n1_:=zA (blk_grown (g:=gb352) (o:=.cells #[.string ((rd_T74 l0_0 x10_1).f0),.int .i64 ((rd_T74 l0_0 x10_1).f1),.int .i64 ((rd_T74 l0_0 x10_1).f2),.int .i64 ((rd_T74 l0_0 x10_1).f3)] 74 (0,0)) (by (with_reducible repeat (first|refine zL ?_ _|refine zM ?_|refine zK ?_ _));refine zO (cs:=#[.string ((rd_T74 l0_0 x10_1).f0),.int .i64 ((rd_T74 l0_0 x10_1).f1),.int .i64 ((rd_T74 l0_0 x10_1).f2),.int .i64 0]) ?_ 3 _ rfl;(with_reducible repeat (first|refine zL ?_ _|refine zM ?_|refine zK ?_ _));refine zO (cs:=#[.string ((rd_T74 l0_0 x10_1).f0),.int .i64 ((rd_T74 l0_0 x10_1).f1),.int .i64 0,.int .i64 0]) ?_ 2 _ rfl;(with_reducible repeat (first|refine zL ?_ _|refine zM ?_|refine zK ?_ _));refine zO (cs:=#[.string ((rd_T74 l0_0 x10_1).f0),.int .i64 0,.int .i64 0,.int .i64 0]) ?_ 1 _ rfl;(with_reducible repeat (first|refine zL ?_ _|refine zM ?_|refine zK ?_ _));refine zO (cs:=#[.string (⟨#[]⟩:ByteArray),.int .i64 0,.int .i64 0,.int .i64 0]) ?_ 0 _ rfl;(with_reducible repeat (first|refine zL ?_ _|refine zM ?_|refine zK ?_ _));exact BK352.out) hg (Kd.R_ne HO_4.out BK352.out (by decide)));have n2_:=zA (hb);have n3_:=zA (ho);clear BK350;clear BK352;clear HB;clear HO_4;have BK350:=n0_;have BK352:=n1_;have HB:=n2_;have HO355:=n3_;clear n0_ n1_ n2_ n3_;clear ho hb hg hat))
       go_roundg k1
       case measure=>have:=HK1.out;omega
       case rel=>exact ⟨(y353),(wrap64 (x10_1 + 1)),(by first|rfl|(simp;done)|(simp [*];done)),H',⟨by have:=HK1.out;omega⟩,⟨by (with_reducible repeat (first|apply Kd.R_alloc|apply Kd.R_drewN|apply Kd.R_drew));exact HO355.out⟩,⟨by (with_reducible repeat (first|refine zL ?_ _|refine zM ?_|refine zK ?_ _));exact BK350.out⟩,⟨by repeat (first|(with_reducible first|exact HB.out|apply zD|apply zC|apply zE|refine zF ?_ GE350.out|refine zF ?_ GE352.out)|exact HB.out)⟩⟩
      ·rw [if_neg c7] at H
       exact absurd H (by simp)
     ·rw [if_neg c6] at H
      exact absurd H (by simp)
    ·rw [if_neg c5] at H
     exact absurd H (by simp)
   ·rw [if_neg c4] at H
    have c4b0:decide (x10_1 < (l0_0.length:Int)) = false:=zR c4
    clear c4
    replace H:=zb.mp H
    obtain ⟨⟨t356,t357⟩,A120,H⟩:=H
    replace H:(some (t356,t357)) = some (r1,r2):=H
    have A12:=zA A120
    clear A120
    simp only [Option.some.injEq,Prod.mk.injEq] at H
    obtain ⟨rfl,rfl⟩:=H
    have hcz13_0:wr.cell? ⟨gb350,0,none⟩ = some (.slice A0_0 l0_0.length c0_0):=(zI BK350.out 0).trans rfl
    have hcz13_1:wr.cell? ⟨gb350,1,none⟩ = some (.slice A0_1 l0_1.length c0_1):=(zI BK350.out 1).trans rfl
    have hfz13_0:=zJ BK350.out 0
    have hfz13_1:=zJ BK350.out 1
    obtain ⟨Ao14,co14,eo14⟩:=Kd.R_slice HO_4.out
    subst eo14
    go_wp2_with (first|((with_reducible refine zU (f:=25) rfl ?_);refine goesL_ (some 22) rfl rfl Tryd.func25 (by kernel_rfl) rfl #[.agg #[.slice A0_0 l0_0.length c0_0,.slice A0_1 l0_1.length c0_1],.slice Ao14 x4_1.length co14] rfl (by (try simp only [zx,zy,zz]);first|done|rfl|(simp only [zd,zt];rfl)) ?_;(with_reducible refine (model_Code.calls k1 _ _ l0_0 _ _ l0_1 _ _ x4_1 t356 t357 _ ?side1 ?side2 ?side3 ?side4 ?side5 ?side6 ?side7 A12.out).mono ?_);(case side1=>repeat (first|exact (zT HR0_0.out HB.out)|(with_reducible refine Kd.C_alloc ?_ _)|(with_reducible refine Kd.C_drewN ?_ _)|(with_reducible refine Kd.C_drew ?_)));(case side2=>exact HC0_0.out);(case side3=>repeat (first|exact (zT HR0_1.out HB.out)|(with_reducible refine Kd.C_alloc ?_ _)|(with_reducible refine Kd.C_drewN ?_ _)|(with_reducible refine Kd.C_drew ?_)));(case side4=>exact HC0_1.out);(case side5=>repeat (first|exact (Kd.R_reads' HO_4.out).2.2|(with_reducible refine Kd.C_alloc ?_ _)|(with_reducible refine Kd.C_drewN ?_ _)|(with_reducible refine Kd.C_drew ?_)));(case side6=>exact (Kd.R_reads' HO_4.out).2.1);(case side7=>first|exact LaidG.below HLd.out (by repeat (first|(with_reducible first|exact HB.out|apply zD|apply zC|apply zE|refine zF ?_ GE350.out)|exact HB.out))|(refine LaidG.below HLd.out ?_;repeat (with_reducible first|exact HB.out|exact Below.refl _ _|apply zD|apply zC|apply zE);done));rintro e w15 ⟨rfl,hb⟩;refine ⟨_,rfl,?_⟩;have n0_:=zA (Kd.R_below (by (with_reducible repeat (first|apply Kd.R_alloc|apply Kd.R_drewN|apply Kd.R_drew));exact HO_4.out) hb);have n1_:=zA (zN (g:=gb350) (o:=.cells #[.slice A0_0 l0_0.length c0_0,.slice A0_1 l0_1.length c0_1] 25 (0,0)) (by (with_reducible repeat (first|refine zL ?_ _|refine zM ?_|refine zK ?_ _));exact BK350.out) hb);have n2_:=zA (zH (by repeat (first|(with_reducible first|exact HB.out|apply zD|apply zC|apply zE|refine zF ?_ GE350.out)|exact HB.out)) hb);clear HO_4;clear BK350;clear HB;have HO_4:=n0_;have BK350:=n1_;have HB:=n2_;clear n0_ n1_ n2_;(try clear hb);(try clear hb2);(try clear hk);(try clear hi)))
    go_ret2
    exact ⟨by first|rfl|(simp [errW_none,errW_some] <;> rfl)|(simp [*,errW_none,errW_some] <;> rfl),by repeat (first|(with_reducible first|exact HB.out|apply zD|apply zC|apply zE|refine zF ?_ GE350.out)|exact HB.out)⟩
 
/-! ### foretellref_FirstCode: function 29 -/
def foretellref_FirstCode.l0:Nat → List Int → Int → List (S74) → List (S68) → Option (Int × Int)
 | 0,_,_,_,_=>none
 | k + 1,x4,x5,x359000,x359001=>if x5 < (x359000.length:Int) then (if 0 ≤ x5 then (if x4.length < 17592186044416 then (foretellref_FirstCode.l0 k (x4 ++ [(rd_T74 x359000 x5).f3]) (wrap64 (x5 + 1)) x359000 x359001) else (none)) else (none)) else ((foretellref_CodeOf.f k x359000 x359001 x4).bind fun bt363=>(some (bt363.1,bt363.2)))
def foretellref_FirstCode.f (k:Nat) (l0_0:List (S74)) (l0_1:List (S68)):Option (Int × Int):=foretellref_FirstCode.l0 k ([]:List Int) 0 l0_0 l0_1
theorem foretellref_FirstCode.mono_l:∀ k,(∀ y0 y1 y2 y3,LeO (foretellref_FirstCode.l0 k y0 y1 y2 y3) (foretellref_FirstCode.l0 (k + 1) y0 y1 y2 y3))
 | 0=>fun _ _ _ _ r h=>by simp [foretellref_FirstCode.l0] at h
 | k + 1=>by
  have ih0:=foretellref_FirstCode.mono_l k
  ·intro y0 y1 y2 y3
   unfold foretellref_FirstCode.l0
   repeat' first
   | (with_reducible exact ih0 _ _ _ _)
   | (with_reducible exact foretellref_CodeOf.mono _ _ _ _)
   | (with_reducible exact LeO.refl _)
   | (with_reducible exact LeO.none _)
   | (with_reducible refine LeO.ite ?_ ?_)
   | (with_reducible refine LeO.bind ?_ (fun _=>?_))
   | exact ih0 _ _ _ _
   | exact foretellref_CodeOf.mono _ _ _ _
   | exact LeO.none _
   | refine LeO.ite ?_ ?_
   | refine LeO.bind ?_ (fun _=>?_)
theorem foretellref_FirstCode.mono:∀ a0 a1 k,LeO (foretellref_FirstCode.f k a0 a1) (foretellref_FirstCode.f (k + 1) a0 a1):=by
 intro a0 a1 k
 have ih0:=foretellref_FirstCode.mono_l k
 unfold foretellref_FirstCode.f
 repeat' first
   | (with_reducible exact ih0 _ _ _ _)
   | (with_reducible exact foretellref_CodeOf.mono _ _ _ _)
   | (with_reducible exact LeO.refl _)
   | (with_reducible exact LeO.none _)
   | (with_reducible refine LeO.ite ?_ ?_)
   | (with_reducible refine LeO.bind ?_ (fun _=>?_))
   | exact ih0 _ _ _ _
   | exact foretellref_CodeOf.mono _ _ _ _
   | exact LeO.none _
   | refine LeO.ite ?_ ?_
   | refine LeO.bind ?_ (fun _=>?_)
set_option maxHeartbeats 8000000 in
set_option maxRecDepth 100000 in
theorem foretellref_FirstCode.calls (k:Nat) (A0_0:Option Addr) (c0_0:Nat) (l0_0:List (S74)) (A0_1:Option Addr) (c0_1:Nat) (l0_1:List (S68)) (r1:Int) (r2:Int) (w:World) (hr0_0:Kd.C k74 w A0_0 l0_0.length l0_0) (hc0_0:l0_0.length ≤ c0_0) (hr0_1:Kd.C k68 w A0_1 l0_1.length l0_1) (hc0_1:l0_1.length ≤ c0_1) (h:foretellref_FirstCode.f k l0_0 l0_1 = some (r1,r2)) :
  Calls Tryd.prog 29 #[.agg #[.slice A0_0 l0_0.length c0_0,.slice A0_1 l0_1.length c0_1]] w fun e w'=>e = .returned (.tuple #[.int .i64 r1,.int .i64 r2])∧Below w.heap.size w w':=by
 have hu25:=Tryd.underlying25
 have HR0_0:=zA hr0_0
 have HC0_0:=zA hc0_0
 clear hr0_0 hc0_0
 have HR0_1:=zA hr0_1
 have HC0_1:=zA hc0_1
 clear hr0_1 hc0_1
 have HB:=zA (Below.refl w.heap.size w)
 have H:(foretellref_FirstCode.l0 k ([]:List Int) 0 l0_0 l0_1) = some (r1,r2):=h
 clear h
 have H':=zA H
 clear H
 go_enter Tryd.func29,Tryd.ntmps29
 go_wp2_with (first|((with_reducible refine zV (N:=1) rfl ?_);refine zW ?hg (N:=1) ?hd (cs:=#[.slice A0_0 l0_0.length c0_0,.slice A0_1 l0_1.length c0_1]) (t:=25) ?hr ?_;(case hd=>rfl);(case hg=>rfl);(case hr=>first|(go_simp;done)|(go_simp;rfl));intro gb358 hg w2 hbox hb;have n0_:=zA (zH (by repeat (first|(with_reducible first|exact HB.out|apply zD|apply zC|apply zE)|exact HB.out)) hb);have n1_:=zA (hbox);have n2_:=zA ((by rw [hg];exact (zG (by repeat (first|(with_reducible first|exact HB.out|apply zD|apply zC|apply zE)|exact HB.out))):w.heap.size ≤ gb358));have n3_:=zA ((by rw [hg];exact (zG (by repeat (first|(with_reducible first|exact HB.out|apply zD|apply zC|apply zE)|exact HB.out))):w.heap.size ≤ gb358));clear HB;have HB:=n0_;have BK358:=n1_;have GW358:=n2_;have GE358:=n3_;clear n0_ n1_ n2_ n3_;clear hb hbox hg))
 go_loopg [4,5] k (fun kq v4 v5 w'=>∃ (x4_1:List Int) (x5_1:Int),v5 = .int .i64 x5_1∧Aside0 (foretellref_FirstCode.l0 kq x4_1 x5_1 l0_0 l0_1 = some (r1,r2))∧Aside0 (kq ≤ k)∧Aside0 (Kd.R (Kd.int .i64) 3 w' w.heap.size (fun _=>True) v4 x4_1)∧Aside0 (w'.heap[gb358]? = some (.cells #[(.slice A0_0 l0_0.length c0_0),(.slice A0_1 l0_1.length c0_1)] 25 (0,0)))∧Aside0 (Below w.heap.size w w'))
 case atStart=>exact ⟨(([]:List Int)),(0),(by first|rfl|(simp;done)|(simp [*];done)),H',⟨Nat.le_refl _⟩,⟨by first|exact Kd.R_nil _ _ _ _ _|exact Kd.N_nil _ _ _ _ _|exact Kd.V_nil _ _ _ _ _|exact Kd.Q_nil _ _ _ _ _|exact Kd.S_nil _ _ _ _ _⟩,⟨by (with_reducible repeat (first|refine zL ?_ _|refine zM ?_|refine zK ?_ _));exact BK358.out⟩,⟨by repeat (first|(with_reducible first|exact HB.out|apply zD|apply zC|apply zE|refine zF ?_ GE358.out)|exact HB.out)⟩⟩
 case round =>
  clear H'
  try clear c2
  try clear p2
  obtain ⟨x4_1,x5_1,rfl,HA,HK1,HO_4,BK358,HB⟩:=hrel
  cases gk with
  | zero=>exact absurd HA.out (by simp [foretellref_FirstCode.l0])
  | succ k1 =>
   have H:=HA.out
   clear HA
   simp only [foretellref_FirstCode.l0] at H
   by_cases c3:x5_1 < (l0_0.length:Int)
   ·rw [if_pos c3] at H
    have c3b0:decide (x5_1 < (l0_0.length:Int)) = true:=zQ c3
    clear c3
    by_cases c4:0 ≤ x5_1
    ·rw [if_pos c4] at H
     have c4b0:decide (0 ≤ x5_1) = true:=zQ c4
     clear c4
     by_cases c5:x4_1.length < 17592186044416
     ·rw [if_pos c5] at H
      have LMc5:=zA c5
      clear c5
      obtain ⟨y360,hy360⟩:∃ y_:List Int,y_ = (x4_1 ++ [(rd_T74 l0_0 x5_1).f3]):=⟨_,rfl⟩
      replace H:(foretellref_FirstCode.l0 k1 y360 (wrap64 (x5_1 + 1)) l0_0 l0_1) = some (r1,r2):=by first|(rw [hy360];with_reducible exact H)|(have H2_:=(Option.bind_some _ _).symm.trans H;rw [hy360];with_reducible exact H2_)|(have H2_:=(Option.bind_some _ _).symm.trans H;with_reducible exact H2_)|with_reducible exact H|(rw [hy360];exact H)|exact H
      have Ny360:=zA hy360
      clear hy360
      have H':=zA H
      clear H
      have hcz6_0:wr.cell? ⟨gb358,0,none⟩ = some (.slice A0_0 l0_0.length c0_0):=(zI BK358.out 0).trans rfl
      have hcz6_1:wr.cell? ⟨gb358,1,none⟩ = some (.slice A0_1 l0_1.length c0_1):=(zI BK358.out 1).trans rfl
      have hfz6_0:=zJ BK358.out 0
      have hfz6_1:=zJ BK358.out 1
      have p359:0 ≤ (x5_1:Int):=zP (by assumption)
      have q359:x5_1 < (l0_0.length:Int):=zP (by assumption)
      obtain ⟨ad359,e359,hx359_0,hx359_1,hx359_2,hx359_3⟩:=at_T74 HR0_0.out x5_1 p359 q359
      cases e359
      replace hx359_0:=(HB.out.cell (zB w _ hx359_0)).trans hx359_0
      replace hx359_1:=(HB.out.cell (zB w _ hx359_1)).trans hx359_1
      replace hx359_2:=(HB.out.cell (zB w _ hx359_2)).trans hx359_2
      replace hx359_3:=(HB.out.cell (zB w _ hx359_3)).trans hx359_3
      replace p359:=eq_true p359
      replace q359:=eq_true q359
      go_wp2_with (first|((with_reducible refine gate_builtin (b:=.append) (xs:=#[.tmp 15,.tmp 22]) rfl ?_);at_builtin;refine Kd.R_append (Kd.int .i64) (w0:=w) w.heap.size rfl (.tmp 15) (.tmp 22) 37 3 (.int .i64 0) 8 rfl Tryd.underlying37 info3 rfl (by decide) (by omega) u4 x4_1 ((rd_T74 l0_0 x5_1).f3) [.int .i64 ((rd_T74 l0_0 x5_1).f3)] (fun _=>True) (fun _=>False) rfl rfl ?aP (fun _ hk=>hk.elim) ?aF ?aO ?aB ?aS ?aL ?_;(case aP=>exact rfl);(case aB=>exact (by repeat (first|(with_reducible first|exact HB.out|apply zD|apply zC|apply zE|refine zF ?_ GE358.out)|exact HB.out)));(case aF=>exact (fun _ _=>trivial));(case aO=>exact (by (with_reducible repeat (first|apply Kd.R_alloc|apply Kd.R_drewN|apply Kd.R_drew));exact HO_4.out));(case aS=>exact (zG (by repeat (first|(with_reducible first|exact HB.out|apply zD|apply zC|apply zE|refine zF ?_ GE358.out)|exact HB.out))));(case aL=>have:=LMc5.out;omega);intro v361 w7 ho hb hg hat;rw [← Ny360.out] at ho;have n0_:=zA (blk_grown (g:=gb358) (o:=.cells #[.slice (some ad359) l0_0.length c0_0,.slice A0_1 l0_1.length c0_1] 25 (0,0)) (by (with_reducible repeat (first|refine zL ?_ _|refine zM ?_|refine zK ?_ _));exact BK358.out) hg (Kd.R_ne HO_4.out BK358.out (by decide)));have n1_:=zA (hb);have n2_:=zA (ho);clear BK358;clear HB;clear HO_4;have BK358:=n0_;have HB:=n1_;have HO362:=n2_;clear n0_ n1_ n2_;clear ho hb hg hat))
      go_roundg k1
      case measure=>have:=HK1.out;omega
      case rel=>exact ⟨(y360),(wrap64 (x5_1 + 1)),(by first|rfl|(simp;done)|(simp [*];done)),H',⟨by have:=HK1.out;omega⟩,⟨by (with_reducible repeat (first|apply Kd.R_alloc|apply Kd.R_drewN|apply Kd.R_drew));exact HO362.out⟩,⟨by (with_reducible repeat (first|refine zL ?_ _|refine zM ?_|refine zK ?_ _));exact BK358.out⟩,⟨by repeat (first|(with_reducible first|exact HB.out|apply zD|apply zC|apply zE|refine zF ?_ GE358.out)|exact HB.out)⟩⟩
     ·rw [if_neg c5] at H
      exact absurd H (by simp)
    ·rw [if_neg c4] at H
     exact absurd H (by simp)
   ·rw [if_neg c3] at H
    have c3b0:decide (x5_1 < (l0_0.length:Int)) = false:=zR c3
    clear c3
    replace H:=zb.mp H
    obtain ⟨⟨t363,t364⟩,A80,H⟩:=H
    replace H:(some (t363,t364)) = some (r1,r2):=H
    have A8:=zA A80
    clear A80
    simp only [Option.some.injEq,Prod.mk.injEq] at H
    obtain ⟨rfl,rfl⟩:=H
    have hcz9_0:wr.cell? ⟨gb358,0,none⟩ = some (.slice A0_0 l0_0.length c0_0):=(zI BK358.out 0).trans rfl
    have hcz9_1:wr.cell? ⟨gb358,1,none⟩ = some (.slice A0_1 l0_1.length c0_1):=(zI BK358.out 1).trans rfl
    have hfz9_0:=zJ BK358.out 0
    have hfz9_1:=zJ BK358.out 1
    obtain ⟨Ao10,co10,eo10⟩:=Kd.R_slice HO_4.out
    subst eo10
    go_wp2_with (first|((with_reducible refine zU (f:=26) rfl ?_);refine goesL_ (some 27) rfl rfl Tryd.func26 (by kernel_rfl) rfl #[.agg #[.slice A0_0 l0_0.length c0_0,.slice A0_1 l0_1.length c0_1],.slice Ao10 x4_1.length co10] rfl (by (try simp only [zx,zy,zz]);first|done|rfl|(simp only [zd,zt];rfl)) ?_;(with_reducible refine (foretellref_CodeOf.calls k1 _ _ l0_0 _ _ l0_1 _ _ x4_1 t363 t364 _ ?side1 ?side2 ?side3 ?side4 ?side5 ?side6 A8.out).mono ?_);(case side1=>repeat (first|exact (zT HR0_0.out HB.out)|(with_reducible refine Kd.C_alloc ?_ _)|(with_reducible refine Kd.C_drewN ?_ _)|(with_reducible refine Kd.C_drew ?_)));(case side2=>exact HC0_0.out);(case side3=>repeat (first|exact (zT HR0_1.out HB.out)|(with_reducible refine Kd.C_alloc ?_ _)|(with_reducible refine Kd.C_drewN ?_ _)|(with_reducible refine Kd.C_drew ?_)));(case side4=>exact HC0_1.out);(case side5=>repeat (first|exact (Kd.R_reads' HO_4.out).2.2|(with_reducible refine Kd.C_alloc ?_ _)|(with_reducible refine Kd.C_drewN ?_ _)|(with_reducible refine Kd.C_drew ?_)));(case side6=>exact (Kd.R_reads' HO_4.out).2.1);rintro e w11 ⟨rfl,hb⟩;refine ⟨_,rfl,?_⟩;have n0_:=zA (Kd.R_below (by (with_reducible repeat (first|apply Kd.R_alloc|apply Kd.R_drewN|apply Kd.R_drew));exact HO_4.out) hb);have n1_:=zA (zN (g:=gb358) (o:=.cells #[.slice A0_0 l0_0.length c0_0,.slice A0_1 l0_1.length c0_1] 25 (0,0)) (by (with_reducible repeat (first|refine zL ?_ _|refine zM ?_|refine zK ?_ _));exact BK358.out) hb);have n2_:=zA (zH (by repeat (first|(with_reducible first|exact HB.out|apply zD|apply zC|apply zE|refine zF ?_ GE358.out)|exact HB.out)) hb);clear HO_4;clear BK358;clear HB;have HO_4:=n0_;have BK358:=n1_;have HB:=n2_;clear n0_ n1_ n2_;(try clear hb);(try clear hb2);(try clear hk);(try clear hi)))
    go_ret2
    exact ⟨by first|rfl|(simp [errW_none,errW_some] <;> rfl)|(simp [*,errW_none,errW_some] <;> rfl),by repeat (first|(with_reducible first|exact HB.out|apply zD|apply zC|apply zE|refine zF ?_ GE358.out)|exact HB.out)⟩
 
/-! ### foretelllaw_ModelFirsts: function 7 -/
def foretelllaw_ModelFirsts.f (k:Nat) (l0_0:List (S74)) (l0_1:List (S68)):Option (Bool):=(foretelllaw_models.f k l0_0 l0_1).bind fun bt366=>((model_First.f k bt366.1 bt366.2).bind fun bt372=>((foretellref_FirstCode.f k l0_0 l0_1).bind fun bt374=>(if bt372.1 = bt374.1 then (some (bt372.2 == bt374.2)) else (some false))))
theorem foretelllaw_ModelFirsts.mono:∀ a0 a1 k,LeO (foretelllaw_ModelFirsts.f k a0 a1) (foretelllaw_ModelFirsts.f (k + 1) a0 a1):=by
 intro a0 a1 k
 unfold foretelllaw_ModelFirsts.f
 repeat' first
   | (with_reducible exact foretelllaw_models.mono _ _ _)
   | (with_reducible exact foretellref_FirstCode.mono _ _ _)
   | (with_reducible exact model_First.mono _ _ _)
   | (with_reducible exact LeO.refl _)
   | (with_reducible exact LeO.none _)
   | (with_reducible refine LeO.ite ?_ ?_)
   | (with_reducible refine LeO.bind ?_ (fun _=>?_))
   | exact foretelllaw_models.mono _ _ _
   | exact foretellref_FirstCode.mono _ _ _
   | exact model_First.mono _ _ _
   | exact LeO.none _
   | refine LeO.ite ?_ ?_
   | refine LeO.bind ?_ (fun _=>?_)
set_option maxHeartbeats 8000000 in
set_option maxRecDepth 100000 in
theorem foretelllaw_ModelFirsts.calls (k:Nat) (A0_0:Option Addr) (c0_0:Nat) (l0_0:List (S74)) (A0_1:Option Addr) (c0_1:Nat) (l0_1:List (S68)) (r:Bool) (w:World) (hr0_0:Kd.C k74 w A0_0 l0_0.length l0_0) (hc0_0:l0_0.length ≤ c0_0) (hr0_1:Kd.C k68 w A0_1 l0_1.length l0_1) (hc0_1:l0_1.length ≤ c0_1) (hL:LaidG w) (h:foretelllaw_ModelFirsts.f k l0_0 l0_1 = some r) :
  Calls Tryd.prog 7 #[.agg #[.slice A0_0 l0_0.length c0_0,.slice A0_1 l0_1.length c0_1]] w fun e w'=>e = .returned (.bool r)∧Below w.heap.size w w':=by
 have HLd:=zA hL
 clear hL
 have hu25:=Tryd.underlying25
 have HR0_0:=zA hr0_0
 have HC0_0:=zA hc0_0
 clear hr0_0 hc0_0
 have HR0_1:=zA hr0_1
 have HC0_1:=zA hc0_1
 clear hr0_1 hc0_1
 have HB:=zA (Below.refl w.heap.size w)
 have H:((foretelllaw_models.f k l0_0 l0_1).bind fun bt366=>((model_First.f k bt366.1 bt366.2).bind fun bt372=>((foretellref_FirstCode.f k l0_0 l0_1).bind fun bt374=>(if bt372.1 = bt374.1 then (some (bt372.2 == bt374.2)) else (some false))))) = some r:=h
 clear h
 replace H:=zb.mp H
 obtain ⟨⟨t366,t369⟩,A20,H⟩:=H
 replace H:((model_First.f k t366 t369).bind fun bt372=>((foretellref_FirstCode.f k l0_0 l0_1).bind fun bt374=>(if bt372.1 = bt374.1 then (some (bt372.2 == bt374.2)) else (some false)))) = some r:=H
 have A2:=zA A20
 clear A20
 replace H:=zb.mp H
 obtain ⟨⟨t372,t373⟩,A30,H⟩:=H
 replace H:((foretellref_FirstCode.f k l0_0 l0_1).bind fun bt374=>(if t372 = bt374.1 then (some (t373 == bt374.2)) else (some false))) = some r:=H
 have A3:=zA A30
 clear A30
 replace H:=zb.mp H
 obtain ⟨⟨t374,t375⟩,A40,H⟩:=H
 replace H:(if t372 = t374 then (some (t373 == t375)) else (some false)) = some r:=H
 have A4:=zA A40
 clear A40
 by_cases c5:t372 = t374
 ·rw [if_pos c5] at H
  have c5b0:(t372 == t374) = true:=beq_iff_eq.mpr c5
  have c5b1:(t372 != t374) = false:=bne_eq_false_iff_eq.mpr c5
  clear c5
  obtain rfl:=Option.some.inj H
  go_enter Tryd.func7,Tryd.ntmps7
  go_wp2_with (first|((with_reducible refine zV (N:=1) rfl ?_);refine zW ?hg (N:=1) ?hd (cs:=#[.slice A0_0 l0_0.length c0_0,.slice A0_1 l0_1.length c0_1]) (t:=25) ?hr ?_;(case hd=>rfl);(case hg=>rfl);(case hr=>first|(go_simp;done)|(go_simp;rfl));intro gb365 hg w6 hbox hb;have n0_:=zA (zH (by repeat (first|(with_reducible first|exact HB.out|apply zD|apply zC|apply zE)|exact HB.out)) hb);have n1_:=zA (hbox);have n2_:=zA ((by rw [hg];exact (zG (by repeat (first|(with_reducible first|exact HB.out|apply zD|apply zC|apply zE)|exact HB.out))):w.heap.size ≤ gb365));have n3_:=zA ((by rw [hg];exact (zG (by repeat (first|(with_reducible first|exact HB.out|apply zD|apply zC|apply zE)|exact HB.out))):w.heap.size ≤ gb365));clear HB;have HB:=n0_;have BK365:=n1_;have GW365:=n2_;have GE365:=n3_;clear n0_ n1_ n2_ n3_;clear hb hbox hg;have hcz7_0:w6.cell? ⟨gb365,0,none⟩ = some (.slice A0_0 l0_0.length c0_0):=(zI BK365.out 0).trans rfl;have hcz7_1:w6.cell? ⟨gb365,1,none⟩ = some (.slice A0_1 l0_1.length c0_1):=(zI BK365.out 1).trans rfl;have hfz7_0:=zJ BK365.out 0;have hfz7_1:=zJ BK365.out 1)|((with_reducible refine zU (f:=15) rfl ?_);refine goesL_ (some 9) rfl rfl Tryd.func15 (by kernel_rfl) rfl #[.agg #[.slice A0_0 l0_0.length c0_0,.slice A0_1 l0_1.length c0_1]] rfl (by (try simp only [zx,zy,zz]);first|done|rfl|(simp only [zd,zt];rfl)) ?_;(with_reducible refine (foretelllaw_models.calls k _ _ l0_0 _ _ l0_1 t366 t369 _ ?side1 ?side2 ?side3 ?side4 A2.out).mono ?_);(case side1=>repeat (first|exact (zT HR0_0.out HB.out)|(with_reducible refine Kd.C_alloc ?_ _)|(with_reducible refine Kd.C_drewN ?_ _)|(with_reducible refine Kd.C_drew ?_)));(case side2=>exact HC0_0.out);(case side3=>repeat (first|exact (zT HR0_1.out HB.out)|(with_reducible refine Kd.C_alloc ?_ _)|(with_reducible refine Kd.C_drewN ?_ _)|(with_reducible refine Kd.C_drew ?_)));(case side4=>exact HC0_1.out);rintro e w8 ⟨v367,v370,rfl,ho0,ho1,hb⟩;refine ⟨_,rfl,?_⟩;have n0_:=zA (Kd.R_lower ho0 (zG (by repeat (first|(with_reducible first|exact HB.out|apply zD|apply zC|apply zE|refine zF ?_ GE365.out)|exact HB.out))));have n1_:=zA (Kd.R_lower ho1 (zG (by repeat (first|(with_reducible first|exact HB.out|apply zD|apply zC|apply zE|refine zF ?_ GE365.out)|exact HB.out))));have n2_:=zA (zN (g:=gb365) (o:=.cells #[.slice A0_0 l0_0.length c0_0,.slice A0_1 l0_1.length c0_1] 25 (0,0)) (by (with_reducible repeat (first|refine zL ?_ _|refine zM ?_|refine zK ?_ _));exact BK365.out) hb);have n3_:=zA (zH (by repeat (first|(with_reducible first|exact HB.out|apply zD|apply zC|apply zE|refine zF ?_ GE365.out)|exact HB.out)) hb);clear BK365;clear HB;have HO368:=n0_;have HO371:=n1_;have BK365:=n2_;have HB:=n3_;clear n0_ n1_ n2_ n3_;(try clear hb);(try clear hb2);(try clear hk);(try clear hi);(try clear ho0);(try clear ho1);obtain ⟨Ao9,co9,eo9⟩:=Kd.R_slice HO368.out;subst eo9;obtain ⟨Ao10,co10,eo10⟩:=Kd.R_slice HO371.out;subst eo10)|((with_reducible refine zU (f:=28) rfl ?_);refine goesL_ (some 10) rfl rfl Tryd.func28 (by kernel_rfl) rfl #[.agg #[.slice Ao9 t366.length co9,.slice Ao10 t369.length co10]] rfl (by (try simp only [zx,zy,zz]);first|done|rfl|(simp only [zd,zt];rfl)) ?_;(with_reducible refine (model_First.calls k _ _ t366 _ _ t369 t372 t373 _ ?side1 ?side2 ?side3 ?side4 ?side5 A3.out).mono ?_);(case side1=>repeat (first|exact (Kd.R_reads' HO368.out).2.2|(with_reducible refine Kd.C_alloc ?_ _)|(with_reducible refine Kd.C_drewN ?_ _)|(with_reducible refine Kd.C_drew ?_)));(case side2=>exact (Kd.R_reads' HO368.out).2.1);(case side3=>repeat (first|exact (Kd.R_reads' HO371.out).2.2|(with_reducible refine Kd.C_alloc ?_ _)|(with_reducible refine Kd.C_drewN ?_ _)|(with_reducible refine Kd.C_drew ?_)));(case side4=>exact (Kd.R_reads' HO371.out).2.1);(case side5=>first|exact LaidG.below HLd.out (by repeat (first|(with_reducible first|exact HB.out|apply zD|apply zC|apply zE|refine zF ?_ GE365.out)|exact HB.out))|(refine LaidG.below HLd.out ?_;repeat (with_reducible first|exact HB.out|exact Below.refl _ _|apply zD|apply zC|apply zE);done));rintro e w11 ⟨rfl,hb⟩;refine ⟨_,rfl,?_⟩;have n0_:=zA (Kd.R_below (by (with_reducible repeat (first|apply Kd.R_alloc|apply Kd.R_drewN|apply Kd.R_drew));exact HO368.out) hb);have n1_:=zA (Kd.R_below (by (with_reducible repeat (first|apply Kd.R_alloc|apply Kd.R_drewN|apply Kd.R_drew));exact HO371.out) hb);have n2_:=zA (zN (g:=gb365) (o:=.cells #[.slice A0_0 l0_0.length c0_0,.slice A0_1 l0_1.length c0_1] 25 (0,0)) (by (with_reducible repeat (first|refine zL ?_ _|refine zM ?_|refine zK ?_ _));exact BK365.out) hb);have n3_:=zA (zH (by repeat (first|(with_reducible first|exact HB.out|apply zD|apply zC|apply zE|refine zF ?_ GE365.out)|exact HB.out)) hb);clear HO368;clear HO371;clear BK365;clear HB;have HO368:=n0_;have HO371:=n1_;have BK365:=n2_;have HB:=n3_;clear n0_ n1_ n2_ n3_;(try clear hb);(try clear hb2);(try clear hk);(try clear hi);have hcz12_0:w11.cell? ⟨gb365,0,none⟩ = some (.slice A0_0 l0_0.length c0_0):=(zI BK365.out 0).trans rfl;have hcz12_1:w11.cell? ⟨gb365,1,none⟩ = some (.slice A0_1 l0_1.length c0_1):=(zI BK365.out 1).trans rfl;have hfz12_0:=zJ BK365.out 0;have hfz12_1:=zJ BK365.out 1)|((with_reducible refine zU (f:=29) rfl ?_);refine goesL_ (some 15) rfl rfl Tryd.func29 (by kernel_rfl) rfl #[.agg #[.slice A0_0 l0_0.length c0_0,.slice A0_1 l0_1.length c0_1]] rfl (by (try simp only [zx,zy,zz]);first|done|rfl|(simp only [zd,zt];rfl)) ?_;(with_reducible refine (foretellref_FirstCode.calls k _ _ l0_0 _ _ l0_1 t374 t375 _ ?side1 ?side2 ?side3 ?side4 A4.out).mono ?_);(case side1=>repeat (first|exact (zT HR0_0.out HB.out)|(with_reducible refine Kd.C_alloc ?_ _)|(with_reducible refine Kd.C_drewN ?_ _)|(with_reducible refine Kd.C_drew ?_)));(case side2=>exact HC0_0.out);(case side3=>repeat (first|exact (zT HR0_1.out HB.out)|(with_reducible refine Kd.C_alloc ?_ _)|(with_reducible refine Kd.C_drewN ?_ _)|(with_reducible refine Kd.C_drew ?_)));(case side4=>exact HC0_1.out);rintro e w13 ⟨rfl,hb⟩;refine ⟨_,rfl,?_⟩;have n0_:=zA (Kd.R_below (by (with_reducible repeat (first|apply Kd.R_alloc|apply Kd.R_drewN|apply Kd.R_drew));exact HO368.out) hb);have n1_:=zA (Kd.R_below (by (with_reducible repeat (first|apply Kd.R_alloc|apply Kd.R_drewN|apply Kd.R_drew));exact HO371.out) hb);have n2_:=zA (zN (g:=gb365) (o:=.cells #[.slice A0_0 l0_0.length c0_0,.slice A0_1 l0_1.length c0_1] 25 (0,0)) (by (with_reducible repeat (first|refine zL ?_ _|refine zM ?_|refine zK ?_ _));exact BK365.out) hb);have n3_:=zA (zH (by repeat (first|(with_reducible first|exact HB.out|apply zD|apply zC|apply zE|refine zF ?_ GE365.out)|exact HB.out)) hb);clear HO368;clear HO371;clear BK365;clear HB;have HO368:=n0_;have HO371:=n1_;have BK365:=n2_;have HB:=n3_;clear n0_ n1_ n2_ n3_;(try clear hb);(try clear hb2);(try clear hk);(try clear hi)))
  go_ret
  exact ⟨by first|rfl|(simp [errW_none,errW_some] <;> rfl)|(simp [*,errW_none,errW_some] <;> rfl),by repeat (first|(with_reducible first|exact HB.out|apply zD|apply zC|apply zE|refine zF ?_ GE365.out)|exact HB.out)⟩
 ·rw [if_neg c5] at H
  have c5b0:(t372 == t374) = false:=beq_eq_false_iff_ne.mpr c5
  have c5b1:(t372 != t374) = true:=bne_iff_ne.mpr c5
  obtain rfl:=Option.some.inj H
  go_enter Tryd.func7,Tryd.ntmps7
  go_wp2_with (first|((with_reducible refine zV (N:=1) rfl ?_);refine zW ?hg (N:=1) ?hd (cs:=#[.slice A0_0 l0_0.length c0_0,.slice A0_1 l0_1.length c0_1]) (t:=25) ?hr ?_;(case hd=>rfl);(case hg=>rfl);(case hr=>first|(go_simp;done)|(go_simp;rfl));intro gb365 hg w14 hbox hb;have n0_:=zA (zH (by repeat (first|(with_reducible first|exact HB.out|apply zD|apply zC|apply zE)|exact HB.out)) hb);have n1_:=zA (hbox);have n2_:=zA ((by rw [hg];exact (zG (by repeat (first|(with_reducible first|exact HB.out|apply zD|apply zC|apply zE)|exact HB.out))):w.heap.size ≤ gb365));have n3_:=zA ((by rw [hg];exact (zG (by repeat (first|(with_reducible first|exact HB.out|apply zD|apply zC|apply zE)|exact HB.out))):w.heap.size ≤ gb365));clear HB;have HB:=n0_;have BK365:=n1_;have GW365:=n2_;have GE365:=n3_;clear n0_ n1_ n2_ n3_;clear hb hbox hg;have hcz15_0:w14.cell? ⟨gb365,0,none⟩ = some (.slice A0_0 l0_0.length c0_0):=(zI BK365.out 0).trans rfl;have hcz15_1:w14.cell? ⟨gb365,1,none⟩ = some (.slice A0_1 l0_1.length c0_1):=(zI BK365.out 1).trans rfl;have hfz15_0:=zJ BK365.out 0;have hfz15_1:=zJ BK365.out 1)|((with_reducible refine zU (f:=15) rfl ?_);refine goesL_ (some 9) rfl rfl Tryd.func15 (by kernel_rfl) rfl #[.agg #[.slice A0_0 l0_0.length c0_0,.slice A0_1 l0_1.length c0_1]] rfl (by (try simp only [zx,zy,zz]);first|done|rfl|(simp only [zd,zt];rfl)) ?_;(with_reducible refine (foretelllaw_models.calls k _ _ l0_0 _ _ l0_1 t366 t369 _ ?side1 ?side2 ?side3 ?side4 A2.out).mono ?_);(case side1=>repeat (first|exact (zT HR0_0.out HB.out)|(with_reducible refine Kd.C_alloc ?_ _)|(with_reducible refine Kd.C_drewN ?_ _)|(with_reducible refine Kd.C_drew ?_)));(case side2=>exact HC0_0.out);(case side3=>repeat (first|exact (zT HR0_1.out HB.out)|(with_reducible refine Kd.C_alloc ?_ _)|(with_reducible refine Kd.C_drewN ?_ _)|(with_reducible refine Kd.C_drew ?_)));(case side4=>exact HC0_1.out);rintro e w16 ⟨v367,v370,rfl,ho0,ho1,hb⟩;refine ⟨_,rfl,?_⟩;have n0_:=zA (Kd.R_lower ho0 (zG (by repeat (first|(with_reducible first|exact HB.out|apply zD|apply zC|apply zE|refine zF ?_ GE365.out)|exact HB.out))));have n1_:=zA (Kd.R_lower ho1 (zG (by repeat (first|(with_reducible first|exact HB.out|apply zD|apply zC|apply zE|refine zF ?_ GE365.out)|exact HB.out))));have n2_:=zA (zN (g:=gb365) (o:=.cells #[.slice A0_0 l0_0.length c0_0,.slice A0_1 l0_1.length c0_1] 25 (0,0)) (by (with_reducible repeat (first|refine zL ?_ _|refine zM ?_|refine zK ?_ _));exact BK365.out) hb);have n3_:=zA (zH (by repeat (first|(with_reducible first|exact HB.out|apply zD|apply zC|apply zE|refine zF ?_ GE365.out)|exact HB.out)) hb);clear BK365;clear HB;have HO368:=n0_;have HO371:=n1_;have BK365:=n2_;have HB:=n3_;clear n0_ n1_ n2_ n3_;(try clear hb);(try clear hb2);(try clear hk);(try clear hi);(try clear ho0);(try clear ho1);obtain ⟨Ao17,co17,eo17⟩:=Kd.R_slice HO368.out;subst eo17;obtain ⟨Ao18,co18,eo18⟩:=Kd.R_slice HO371.out;subst eo18)|((with_reducible refine zU (f:=28) rfl ?_);refine goesL_ (some 10) rfl rfl Tryd.func28 (by kernel_rfl) rfl #[.agg #[.slice Ao17 t366.length co17,.slice Ao18 t369.length co18]] rfl (by (try simp only [zx,zy,zz]);first|done|rfl|(simp only [zd,zt];rfl)) ?_;(with_reducible refine (model_First.calls k _ _ t366 _ _ t369 t372 t373 _ ?side1 ?side2 ?side3 ?side4 ?side5 A3.out).mono ?_);(case side1=>repeat (first|exact (Kd.R_reads' HO368.out).2.2|(with_reducible refine Kd.C_alloc ?_ _)|(with_reducible refine Kd.C_drewN ?_ _)|(with_reducible refine Kd.C_drew ?_)));(case side2=>exact (Kd.R_reads' HO368.out).2.1);(case side3=>repeat (first|exact (Kd.R_reads' HO371.out).2.2|(with_reducible refine Kd.C_alloc ?_ _)|(with_reducible refine Kd.C_drewN ?_ _)|(with_reducible refine Kd.C_drew ?_)));(case side4=>exact (Kd.R_reads' HO371.out).2.1);(case side5=>first|exact LaidG.below HLd.out (by repeat (first|(with_reducible first|exact HB.out|apply zD|apply zC|apply zE|refine zF ?_ GE365.out)|exact HB.out))|(refine LaidG.below HLd.out ?_;repeat (with_reducible first|exact HB.out|exact Below.refl _ _|apply zD|apply zC|apply zE);done));rintro e w19 ⟨rfl,hb⟩;refine ⟨_,rfl,?_⟩;have n0_:=zA (Kd.R_below (by (with_reducible repeat (first|apply Kd.R_alloc|apply Kd.R_drewN|apply Kd.R_drew));exact HO368.out) hb);have n1_:=zA (Kd.R_below (by (with_reducible repeat (first|apply Kd.R_alloc|apply Kd.R_drewN|apply Kd.R_drew));exact HO371.out) hb);have n2_:=zA (zN (g:=gb365) (o:=.cells #[.slice A0_0 l0_0.length c0_0,.slice A0_1 l0_1.length c0_1] 25 (0,0)) (by (with_reducible repeat (first|refine zL ?_ _|refine zM ?_|refine zK ?_ _));exact BK365.out) hb);have n3_:=zA (zH (by repeat (first|(with_reducible first|exact HB.out|apply zD|apply zC|apply zE|refine zF ?_ GE365.out)|exact HB.out)) hb);clear HO368;clear HO371;clear BK365;clear HB;have HO368:=n0_;have HO371:=n1_;have BK365:=n2_;have HB:=n3_;clear n0_ n1_ n2_ n3_;(try clear hb);(try clear hb2);(try clear hk);(try clear hi);have hcz20_0:w19.cell? ⟨gb365,0,none⟩ = some (.slice A0_0 l0_0.length c0_0):=(zI BK365.out 0).trans rfl;have hcz20_1:w19.cell? ⟨gb365,1,none⟩ = some (.slice A0_1 l0_1.length c0_1):=(zI BK365.out 1).trans rfl;have hfz20_0:=zJ BK365.out 0;have hfz20_1:=zJ BK365.out 1)|((with_reducible refine zU (f:=29) rfl ?_);refine goesL_ (some 15) rfl rfl Tryd.func29 (by kernel_rfl) rfl #[.agg #[.slice A0_0 l0_0.length c0_0,.slice A0_1 l0_1.length c0_1]] rfl (by (try simp only [zx,zy,zz]);first|done|rfl|(simp only [zd,zt];rfl)) ?_;(with_reducible refine (foretellref_FirstCode.calls k _ _ l0_0 _ _ l0_1 t374 t375 _ ?side1 ?side2 ?side3 ?side4 A4.out).mono ?_);(case side1=>repeat (first|exact (zT HR0_0.out HB.out)|(with_reducible refine Kd.C_alloc ?_ _)|(with_reducible refine Kd.C_drewN ?_ _)|(with_reducible refine Kd.C_drew ?_)));(case side2=>exact HC0_0.out);(case side3=>repeat (first|exact (zT HR0_1.out HB.out)|(with_reducible refine Kd.C_alloc ?_ _)|(with_reducible refine Kd.C_drewN ?_ _)|(with_reducible refine Kd.C_drew ?_)));(case side4=>exact HC0_1.out);rintro e w21 ⟨rfl,hb⟩;refine ⟨_,rfl,?_⟩;have n0_:=zA (Kd.R_below (by (with_reducible repeat (first|apply Kd.R_alloc|apply Kd.R_drewN|apply Kd.R_drew));exact HO368.out) hb);have n1_:=zA (Kd.R_below (by (with_reducible repeat (first|apply Kd.R_alloc|apply Kd.R_drewN|apply Kd.R_drew));exact HO371.out) hb);have n2_:=zA (zN (g:=gb365) (o:=.cells #[.slice A0_0 l0_0.length c0_0,.slice A0_1 l0_1.length c0_1] 25 (0,0)) (by (with_reducible repeat (first|refine zL ?_ _|refine zM ?_|refine zK ?_ _));exact BK365.out) hb);have n3_:=zA (zH (by repeat (first|(with_reducible first|exact HB.out|apply zD|apply zC|apply zE|refine zF ?_ GE365.out)|exact HB.out)) hb);clear HO368;clear HO371;clear BK365;clear HB;have HO368:=n0_;have HO371:=n1_;have BK365:=n2_;have HB:=n3_;clear n0_ n1_ n2_ n3_;(try clear hb);(try clear hb2);(try clear hk);(try clear hi)))
  go_ret
  exact ⟨by first|rfl|(simp [errW_none,errW_some] <;> rfl)|(simp [*,errW_none,errW_some] <;> rfl),by repeat (first|(with_reducible first|exact HB.out|apply zD|apply zC|apply zE|refine zF ?_ GE365.out)|exact HB.out)⟩
 
end Go.Proofs.YtkpddelnkjjflaaDoor.M
