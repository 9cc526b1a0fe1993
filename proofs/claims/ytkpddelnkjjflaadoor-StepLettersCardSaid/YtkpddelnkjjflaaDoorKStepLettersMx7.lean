-- Cut by a program of this session (wip/prune.py) from a longer text: declarations that the law does not need are left out.
import Derived.Test.YtkpddelnkjjflaaDoorKStepLettersMx0
import Derived.Test.YtkpddelnkjjflaaDoorKStepLettersMx4
import Derived.Test.YtkpddelnkjjflaaDoorKStepLettersMx5
namespace Go.Proofs.YtkpddelnkjjflaaDoor.M
open Go.Proofs.YtkpddelnkjjflaaDoor.Al
open Go.World renaming block_lt_of_cell? → zB
open Option renaming bind_eq_some_iff → zb
open List renaming setIfInBounds_toArray → zX, set_cons_zero → zY, set_cons_succ → zZ, map_toArray → zx, map_cons → zy, map_nil → zz, length_drop → zd, length_take → zt
open Go.Proofs.YtkpddelnkjjflaaDoorW.PrintWords renaming pw_below_drewN → zC, below_alloc → zD, below_drew1 → zE, below_set → zF, below_size → zG, below_step → zH, blk_cell → zI, blk_frozen → zJ, blk_alloc → zK, blk_drewN → zL, blk_drew → zM, blk_below → zN, blk_put → zO, Kd.C_below → zT, gate_callee → zU, gate_dst → zV, box_event → zW
open Go.RowKit Go.Proofs.YtkpddelnkjjflaaDoorW.PrintWords Go.Proofs.YtkpddelnkjjflaaDoorW.PrintLast Go.Proofs.YtkpddelnkjjflaaDoorW.PrintMore
attribute [local go_sem] max2_int min2_int max_two min_two max_three min_three max_four min_four
set_option linter.unusedVariables false
set_option linter.unusedSimpArgs false
def model_Count.l0:Nat → Int → List (S74) → Int → Int → Option (Int × Int)
 | 0,_,_,_,_=>none
 | k + 1,x5,x14,x15,x16=>if x16 < x15 then (if 0 ≤ x16 then (if x16 < (x14.length:Int) then (model_Count.l0 k (wrap64 (x5 * (wrap64 ((wrap64 (((rd_T74 x14 x16).f2) - ((rd_T74 x14 x16).f1))) + 1)))) x14 x15 (wrap64 (x16 + 1))) else (none)) else (none)) else (some (x5,0))
def model_Count.f (k:Nat) (l0_0:List (S74)) (l0_1:List (S68)):Option (Int × Int):=(model_Check.f k l0_0 l0_1).bind fun t173=>(if t173 = 0 then (model_Count.l0 k 1 l0_0 (l0_0.length:Int) 0) else (some (0,t173)))
theorem model_Count.mono_l:∀ k,(∀ y0 y1 y2 y3,LeO (model_Count.l0 k y0 y1 y2 y3) (model_Count.l0 (k + 1) y0 y1 y2 y3))
 | 0=>fun _ _ _ _ r h=>by simp [model_Count.l0] at h
 | k + 1=>by
  have ih0:=model_Count.mono_l k
  ·intro y0 y1 y2 y3
   unfold model_Count.l0
   repeat' first
   | (with_reducible exact ih0 _ _ _ _)
   | (with_reducible exact model_Check.mono _ _ _)
   | (with_reducible exact LeO.refl _)
   | (with_reducible exact LeO.none _)
   | (with_reducible refine LeO.ite ?_ ?_)
   | (with_reducible refine LeO.bind ?_ (fun _=>?_))
   | exact ih0 _ _ _ _
   | exact model_Check.mono _ _ _
   | exact LeO.none _
   | refine LeO.ite ?_ ?_
   | refine LeO.bind ?_ (fun _=>?_)
theorem model_Count.mono:∀ a0 a1 k,LeO (model_Count.f k a0 a1) (model_Count.f (k + 1) a0 a1):=by
 intro a0 a1 k
 have ih0:=model_Count.mono_l k
 unfold model_Count.f
 repeat' first
   | (with_reducible exact ih0 _ _ _ _)
   | (with_reducible exact model_Check.mono _ _ _)
   | (with_reducible exact LeO.refl _)
   | (with_reducible exact LeO.none _)
   | (with_reducible refine LeO.ite ?_ ?_)
   | (with_reducible refine LeO.bind ?_ (fun _=>?_))
   | exact ih0 _ _ _ _
   | exact model_Check.mono _ _ _
   | exact LeO.none _
   | refine LeO.ite ?_ ?_
   | refine LeO.bind ?_ (fun _=>?_)
set_option maxHeartbeats 8000000 in
set_option maxRecDepth 100000 in
theorem model_Count.calls (k:Nat) (A0_0:Option Addr) (c0_0:Nat) (l0_0:List (S74)) (A0_1:Option Addr) (c0_1:Nat) (l0_1:List (S68)) (r1:Int) (r2:Int) (w:World) (hr0_0:Kd.C k74 w A0_0 l0_0.length l0_0) (hc0_0:l0_0.length ≤ c0_0) (hr0_1:Kd.C k68 w A0_1 l0_1.length l0_1) (hc0_1:l0_1.length ≤ c0_1) (hL:LaidG w) (h:model_Count.f k l0_0 l0_1 = some (r1,r2)) :
  Calls Tryd.prog 19 #[.agg #[.slice A0_0 l0_0.length c0_0,.slice A0_1 l0_1.length c0_1]] w fun e w'=>e = .returned (.tuple #[.int .i64 r1,.int .i64 r2])∧Below w.heap.size w w':=by
 have HLd:=zA hL
 clear hL
 have hu25:=Tryd.underlying25
 have hu74:=Tryd.underlying74
 have HR0_0:=zA hr0_0
 have HC0_0:=zA hc0_0
 clear hr0_0 hc0_0
 have HR0_1:=zA hr0_1
 have HC0_1:=zA hc0_1
 clear hr0_1 hc0_1
 have HB:=zA (Below.refl w.heap.size w)
 have H:((model_Check.f k l0_0 l0_1).bind fun t173=>(if t173 = 0 then (model_Count.l0 k 1 l0_0 (l0_0.length:Int) 0) else (some (0,t173)))) = some (r1,r2):=h
 clear h
 replace H:=zb.mp H
 obtain ⟨t173,A20,H⟩:=H
 replace H:(if t173 = 0 then (model_Count.l0 k 1 l0_0 (l0_0.length:Int) 0) else (some (0,t173))) = some (r1,r2):=H
 have A2:=zA A20
 clear A20
 by_cases c3:t173 = 0
 ·rw [if_pos c3] at H
  have c3b0:(t173 == 0) = true:=beq_iff_eq.mpr c3
  have c3b1:(t173 != 0) = false:=bne_eq_false_iff_eq.mpr c3
  clear c3
  have H':=zA H
  clear H
  go_enter Tryd.func19,Tryd.ntmps19
  go_wp2_with (first|((with_reducible refine zV (N:=1) rfl ?_);refine zW ?hg (N:=1) ?hd (cs:=#[.slice A0_0 l0_0.length c0_0,.slice A0_1 l0_1.length c0_1]) (t:=25) ?hr ?_;(case hd=>rfl);(case hg=>rfl);(case hr=>first|(go_simp;done)|(go_simp;rfl));intro gb172 hg w4 hbox hb;have n0_:=zA (zH (by repeat (first|(with_reducible first|exact HB.out|apply zD|apply zC|apply zE)|exact HB.out)) hb);have n1_:=zA (hbox);have n2_:=zA ((by rw [hg];exact (zG (by repeat (first|(with_reducible first|exact HB.out|apply zD|apply zC|apply zE)|exact HB.out))):w.heap.size ≤ gb172));have n3_:=zA ((by rw [hg];exact (zG (by repeat (first|(with_reducible first|exact HB.out|apply zD|apply zC|apply zE)|exact HB.out))):w.heap.size ≤ gb172));clear HB;have HB:=n0_;have BK172:=n1_;have GW172:=n2_;have GE172:=n3_;clear n0_ n1_ n2_ n3_;clear hb hbox hg;have hcz5_0:w4.cell? ⟨gb172,0,none⟩ = some (.slice A0_0 l0_0.length c0_0):=(zI BK172.out 0).trans rfl;have hcz5_1:w4.cell? ⟨gb172,1,none⟩ = some (.slice A0_1 l0_1.length c0_1):=(zI BK172.out 1).trans rfl;have hfz5_0:=zJ BK172.out 0;have hfz5_1:=zJ BK172.out 1)|((with_reducible refine zU (f:=16) rfl ?_);refine goesL_ (some 9) rfl rfl Tryd.func16 (by kernel_rfl) rfl #[.agg #[.slice A0_0 l0_0.length c0_0,.slice A0_1 l0_1.length c0_1]] rfl (by (try simp only [zx,zy,zz]);first|done|rfl|(simp only [zd,zt];rfl)) ?_;(with_reducible refine (model_Check.calls k _ _ l0_0 _ _ l0_1 t173 _ ?side1 ?side2 ?side3 ?side4 ?side5 A2.out).mono ?_);(case side1=>repeat (first|exact (zT HR0_0.out HB.out)|(with_reducible refine Kd.C_alloc ?_ _)|(with_reducible refine Kd.C_drewN ?_ _)|(with_reducible refine Kd.C_drew ?_)));(case side2=>exact HC0_0.out);(case side3=>repeat (first|exact (zT HR0_1.out HB.out)|(with_reducible refine Kd.C_alloc ?_ _)|(with_reducible refine Kd.C_drewN ?_ _)|(with_reducible refine Kd.C_drew ?_)));(case side4=>exact HC0_1.out);(case side5=>first|exact LaidG.below HLd.out (by repeat (first|(with_reducible first|exact HB.out|apply zD|apply zC|apply zE|refine zF ?_ GE172.out)|exact HB.out))|(refine LaidG.below HLd.out ?_;repeat (with_reducible first|exact HB.out|exact Below.refl _ _|apply zD|apply zC|apply zE);done));rintro e w6 ⟨rfl,hb⟩;refine ⟨_,rfl,?_⟩;have n0_:=zA (zN (g:=gb172) (o:=.cells #[.slice A0_0 l0_0.length c0_0,.slice A0_1 l0_1.length c0_1] 25 (0,0)) (by (with_reducible repeat (first|refine zL ?_ _|refine zM ?_|refine zK ?_ _));exact BK172.out) hb);have n1_:=zA (zH (by repeat (first|(with_reducible first|exact HB.out|apply zD|apply zC|apply zE|refine zF ?_ GE172.out)|exact HB.out)) hb);clear BK172;clear HB;have BK172:=n0_;have HB:=n1_;clear n0_ n1_;(try clear hb);(try clear hb2);(try clear hk);(try clear hi);have hcz7_0:w6.cell? ⟨gb172,0,none⟩ = some (.slice A0_0 l0_0.length c0_0):=(zI BK172.out 0).trans rfl;have hcz7_1:w6.cell? ⟨gb172,1,none⟩ = some (.slice A0_1 l0_1.length c0_1):=(zI BK172.out 1).trans rfl;have hfz7_0:=zJ BK172.out 0;have hfz7_1:=zJ BK172.out 1))
  go_loopg [5,16] k (fun kq v5 v16 w'=>∃ (x5_1:Int) (x16_1:Int),v5 = .int .i64 x5_1∧v16 = .int .i64 x16_1∧Aside0 (model_Count.l0 kq x5_1 l0_0 (l0_0.length:Int) x16_1 = some (r1,r2))∧Aside0 (kq ≤ k)∧Aside0 (w'.heap[gb172]? = some (.cells #[(.slice A0_0 l0_0.length c0_0),(.slice A0_1 l0_1.length c0_1)] 25 (0,0)))∧Aside0 (Below w.heap.size w w'))
  case atStart=>exact ⟨(1),(0),(by first|rfl|(simp;done)|(simp [*];done)),(by first|rfl|(simp;done)|(simp [*];done)),H',⟨Nat.le_refl _⟩,⟨by (with_reducible repeat (first|refine zL ?_ _|refine zM ?_|refine zK ?_ _));exact BK172.out⟩,⟨by repeat (first|(with_reducible first|exact HB.out|apply zD|apply zC|apply zE|refine zF ?_ GE172.out)|exact HB.out)⟩⟩
  case round =>
   clear H'
   try clear c1
   try clear p2
   try clear c3
   try clear c3b0
   try clear c3b1
   try clear hcz5_0
   try clear hcz5_1
   try clear hcz7_0
   try clear hcz7_1
   try clear hfz5_0
   try clear hfz5_1
   try clear hfz7_0
   try clear hfz7_1
   obtain ⟨x5_1,x16_1,rfl,rfl,HA,HK1,BK172,HB⟩:=hrel
   cases gk with
   | zero=>exact absurd HA.out (by simp [model_Count.l0])
   | succ k1 =>
    have H:=HA.out
    clear HA
    simp only [model_Count.l0] at H
    by_cases c8:x16_1 < (l0_0.length:Int)
    ·rw [if_pos c8] at H
     have c8b0:decide (x16_1 < (l0_0.length:Int)) = true:=zQ c8
     clear c8
     by_cases c9:0 ≤ x16_1
     ·rw [if_pos c9] at H
      have c9b0:decide (0 ≤ x16_1) = true:=zQ c9
      clear c9
      by_cases c10:x16_1 < (l0_0.length:Int)
      ·rw [if_pos c10] at H
       have c10b0:decide (x16_1 < (l0_0.length:Int)) = true:=zQ c10
       clear c10
       have H':=zA H
       clear H
       have p174:0 ≤ (x16_1:Int):=zP (by assumption)
       have q174:x16_1 < (l0_0.length:Int):=zP (by assumption)
       obtain ⟨ad174,e174,hx174_0,hx174_1,hx174_2,hx174_3⟩:=at_T74 HR0_0.out x16_1 p174 q174
       cases e174
       replace hx174_0:=(HB.out.cell (zB w _ hx174_0)).trans hx174_0
       replace hx174_1:=(HB.out.cell (zB w _ hx174_1)).trans hx174_1
       replace hx174_2:=(HB.out.cell (zB w _ hx174_2)).trans hx174_2
       replace hx174_3:=(HB.out.cell (zB w _ hx174_3)).trans hx174_3
       replace p174:=eq_true p174
       replace q174:=eq_true q174
       go_wp2_with (first|((with_reducible refine zV (N:=7) rfl ?_);refine zW ?hg (N:=7) ?hd (cs:=#[.string (⟨#[]⟩:ByteArray),.int .i64 0,.int .i64 0,.int .i64 0]) (t:=74) ?hr ?_;(case hd=>rfl);(case hg=>rfl);(case hr=>first|(go_simp;done)|(go_simp;rfl));intro gb175 hg w11 hbox hb;have n0_:=zA (zN (g:=gb172) (o:=.cells #[.slice (some ad174) l0_0.length c0_0,.slice A0_1 l0_1.length c0_1] 25 (0,0)) (by (with_reducible repeat (first|refine zL ?_ _|refine zM ?_|refine zK ?_ _));exact BK172.out) hb);have n1_:=zA (zH (by repeat (first|(with_reducible first|exact HB.out|apply zD|apply zC|apply zE|refine zF ?_ GE172.out)|exact HB.out)) hb);have n2_:=zA (hbox);have n3_:=zA ((by rw [hg];exact (zG (by repeat (first|(with_reducible first|exact HB.out|apply zD|apply zC|apply zE|refine zF ?_ GE172.out)|exact HB.out))):w.heap.size ≤ gb175));have n4_:=zA ((by rw [hg];exact (zG (by repeat (first|(with_reducible first|exact HB.out|apply zD|apply zC|apply zE|refine zF ?_ GE172.out)|exact HB.out))):w.heap.size ≤ gb175));have n5_:=zA ((by rw [hg];exact Nat.ne_of_lt (blk_lt (g:=gb172) (o:=.cells #[.slice (some ad174) l0_0.length c0_0,.slice A0_1 l0_1.length c0_1] 25 (0,0)) (by (with_reducible repeat (first|refine zL ?_ _|refine zM ?_|refine zK ?_ _));exact BK172.out)):gb172 ≠ gb175));have n6_:=zA ((by rw [hg];exact Nat.ne_of_gt (blk_lt (g:=gb172) (o:=.cells #[.slice (some ad174) l0_0.length c0_0,.slice A0_1 l0_1.length c0_1] 25 (0,0)) (by (with_reducible repeat (first|refine zL ?_ _|refine zM ?_|refine zK ?_ _));exact BK172.out)):gb175 ≠ gb172));clear BK172;clear HB;have BK172:=n0_;have HB:=n1_;have BK175:=n2_;have GW175:=n3_;have GE175:=n4_;have NB172_175:=n5_;have NB175_172:=n6_;clear n0_ n1_ n2_ n3_ n4_ n5_ n6_;clear hb hbox hg;have hnb12:=NB175_172.out;have hnc12:=NB172_175.out;have hcz13_0:w11.cell? ⟨gb175,0,none⟩ = some (.string (⟨#[]⟩:ByteArray)):=(zI BK175.out 0).trans rfl;have hcz13_1:w11.cell? ⟨gb175,1,none⟩ = some (.int .i64 0):=(zI BK175.out 1).trans rfl;have hcz13_2:w11.cell? ⟨gb175,2,none⟩ = some (.int .i64 0):=(zI BK175.out 2).trans rfl;have hcz13_3:w11.cell? ⟨gb175,3,none⟩ = some (.int .i64 0):=(zI BK175.out 3).trans rfl;have hfz13_0:=zJ BK175.out 0;have hfz13_1:=zJ BK175.out 1;have hfz13_2:=zJ BK175.out 2;have hfz13_3:=zJ BK175.out 3))
       go_roundg k1
       case measure=>have:=HK1.out;omega
       case rel=>exact ⟨(wrap64 (x5_1 * (wrap64 ((wrap64 (((rd_T74 l0_0 x16_1).f2) - ((rd_T74 l0_0 x16_1).f1))) + 1)))),(wrap64 (x16_1 + 1)),(by first|rfl|(simp;done)|(simp [*];done)),(by first|rfl|(simp;done)|(simp [*];done)),H',⟨by have:=HK1.out;omega⟩,⟨by (with_reducible repeat (first|refine zL ?_ _|refine zM ?_|refine zK ?_ _));refine blk_far ?_ NB172_175.out _;(with_reducible repeat (first|refine zL ?_ _|refine zM ?_|refine zK ?_ _));refine blk_far ?_ NB172_175.out _;(with_reducible repeat (first|refine zL ?_ _|refine zM ?_|refine zK ?_ _));refine blk_far ?_ NB172_175.out _;(with_reducible repeat (first|refine zL ?_ _|refine zM ?_|refine zK ?_ _));refine blk_far ?_ NB172_175.out _;(with_reducible repeat (first|refine zL ?_ _|refine zM ?_|refine zK ?_ _));exact BK172.out⟩,⟨by repeat (first|(with_reducible first|exact HB.out|apply zD|apply zC|apply zE|refine zF ?_ GE172.out|refine zF ?_ GE175.out)|exact HB.out)⟩⟩
      ·rw [if_neg c10] at H
       exact absurd H (by simp)
     ·rw [if_neg c9] at H
      exact absurd H (by simp)
    ·rw [if_neg c8] at H
     have c8b0:decide (x16_1 < (l0_0.length:Int)) = false:=zR c8
     clear c8
     simp only [Option.some.injEq,Prod.mk.injEq] at H
     obtain ⟨rfl,rfl⟩:=H
     go_wp2
     go_ret2
     exact ⟨by first|rfl|(simp [errW_none,errW_some] <;> rfl)|(simp [*,errW_none,errW_some] <;> rfl),by repeat (first|(with_reducible first|exact HB.out|apply zD|apply zC|apply zE|refine zF ?_ GE172.out)|exact HB.out)⟩
 ·rw [if_neg c3] at H
  have c3b0:(t173 == 0) = false:=beq_eq_false_iff_ne.mpr c3
  have c3b1:(t173 != 0) = true:=bne_iff_ne.mpr c3
  simp only [Option.some.injEq,Prod.mk.injEq] at H
  obtain ⟨rfl,rfl⟩:=H
  go_enter Tryd.func19,Tryd.ntmps19
  go_wp2_with (first|((with_reducible refine zV (N:=1) rfl ?_);refine zW ?hg (N:=1) ?hd (cs:=#[.slice A0_0 l0_0.length c0_0,.slice A0_1 l0_1.length c0_1]) (t:=25) ?hr ?_;(case hd=>rfl);(case hg=>rfl);(case hr=>first|(go_simp;done)|(go_simp;rfl));intro gb172 hg w14 hbox hb;have n0_:=zA (zH (by repeat (first|(with_reducible first|exact HB.out|apply zD|apply zC|apply zE)|exact HB.out)) hb);have n1_:=zA (hbox);have n2_:=zA ((by rw [hg];exact (zG (by repeat (first|(with_reducible first|exact HB.out|apply zD|apply zC|apply zE)|exact HB.out))):w.heap.size ≤ gb172));have n3_:=zA ((by rw [hg];exact (zG (by repeat (first|(with_reducible first|exact HB.out|apply zD|apply zC|apply zE)|exact HB.out))):w.heap.size ≤ gb172));clear HB;have HB:=n0_;have BK172:=n1_;have GW172:=n2_;have GE172:=n3_;clear n0_ n1_ n2_ n3_;clear hb hbox hg;have hcz15_0:w14.cell? ⟨gb172,0,none⟩ = some (.slice A0_0 l0_0.length c0_0):=(zI BK172.out 0).trans rfl;have hcz15_1:w14.cell? ⟨gb172,1,none⟩ = some (.slice A0_1 l0_1.length c0_1):=(zI BK172.out 1).trans rfl;have hfz15_0:=zJ BK172.out 0;have hfz15_1:=zJ BK172.out 1)|((with_reducible refine zU (f:=16) rfl ?_);refine goesL_ (some 9) rfl rfl Tryd.func16 (by kernel_rfl) rfl #[.agg #[.slice A0_0 l0_0.length c0_0,.slice A0_1 l0_1.length c0_1]] rfl (by (try simp only [zx,zy,zz]);first|done|rfl|(simp only [zd,zt];rfl)) ?_;(with_reducible refine (model_Check.calls k _ _ l0_0 _ _ l0_1 t173 _ ?side1 ?side2 ?side3 ?side4 ?side5 A2.out).mono ?_);(case side1=>repeat (first|exact (zT HR0_0.out HB.out)|(with_reducible refine Kd.C_alloc ?_ _)|(with_reducible refine Kd.C_drewN ?_ _)|(with_reducible refine Kd.C_drew ?_)));(case side2=>exact HC0_0.out);(case side3=>repeat (first|exact (zT HR0_1.out HB.out)|(with_reducible refine Kd.C_alloc ?_ _)|(with_reducible refine Kd.C_drewN ?_ _)|(with_reducible refine Kd.C_drew ?_)));(case side4=>exact HC0_1.out);(case side5=>first|exact LaidG.below HLd.out (by repeat (first|(with_reducible first|exact HB.out|apply zD|apply zC|apply zE|refine zF ?_ GE172.out)|exact HB.out))|(refine LaidG.below HLd.out ?_;repeat (with_reducible first|exact HB.out|exact Below.refl _ _|apply zD|apply zC|apply zE);done));rintro e w16 ⟨rfl,hb⟩;refine ⟨_,rfl,?_⟩;have n0_:=zA (zN (g:=gb172) (o:=.cells #[.slice A0_0 l0_0.length c0_0,.slice A0_1 l0_1.length c0_1] 25 (0,0)) (by (with_reducible repeat (first|refine zL ?_ _|refine zM ?_|refine zK ?_ _));exact BK172.out) hb);have n1_:=zA (zH (by repeat (first|(with_reducible first|exact HB.out|apply zD|apply zC|apply zE|refine zF ?_ GE172.out)|exact HB.out)) hb);clear BK172;clear HB;have BK172:=n0_;have HB:=n1_;clear n0_ n1_;(try clear hb);(try clear hb2);(try clear hk);(try clear hi)))
  go_ret2
  exact ⟨by first|rfl|(simp [errW_none,errW_some] <;> rfl)|(simp [*,errW_none,errW_some] <;> rfl),by repeat (first|(with_reducible first|exact HB.out|apply zD|apply zC|apply zE|refine zF ?_ GE172.out)|exact HB.out)⟩
mutual
def model_Values.j0:Nat → Int → Bool → List (S74) → List (S68) → Option (List Int × Int)
 | 0,_,_,_,_=>none
 | k + 1,x1,x26,x177000,x177001=>if x26 = true then (some (([]:List Int),9)) else (if 0 ≤ (x177000.length:Int) then (if ((x177000.length:Int):Int).toNat ≤ 35184372088832 then (model_Values.l0 k x1 (List.replicate ((x177000.length:Int):Int).toNat 0) (wrap64 ((x177000.length:Int) - 1)) x177000 x177001) else (none)) else (none))
def model_Values.l0:Nat → Int → List Int → Int → List (S74) → List (S68) → Option (List Int × Int)
 | 0,_,_,_,_,_=>none
 | k + 1,x1,x8,x9,x177000,x177001=>if x9 ≥ 0 then (if 0 ≤ x9 then (if x9 < (x177000.length:Int) then (if (wrap64 ((wrap64 (((rd_T74 x177000 x9).f2) - ((rd_T74 x177000 x9).f1))) + 1)) = 0 then (none) else (if x9 < (x8.length:Int) then (model_Values.l0 k (wrap64 (Int.tdiv x1 (wrap64 ((wrap64 (((rd_T74 x177000 x9).f2) - ((rd_T74 x177000 x9).f1))) + 1)))) (x8.set (x9:Int).toNat (wrap64 (((rd_T74 x177000 x9).f1) + (Int.tmod x1 (wrap64 ((wrap64 (((rd_T74 x177000 x9).f2) - ((rd_T74 x177000 x9).f1))) + 1)))))) (wrap64 (x9 - 1)) x177000 x177001) else (none))) else (none)) else (none)) else (some (x8,0))
end
def model_Values.f (k:Nat) (l0_0:List (S74)) (l0_1:List (S68)) (a1:Int):Option (List Int × Int):=(model_Count.f k l0_0 l0_1).bind fun bt177=>(if bt177.2 = 0 then (if a1 < 0 then (model_Values.j0 k a1 true l0_0 l0_1) else (model_Values.j0 k a1 (decide (a1 ≥ bt177.1)) l0_0 l0_1)) else (some (([]:List Int),bt177.2)))
theorem model_Values.mono_l:∀ k,(∀ y0 y1 y2 y3,LeO (model_Values.j0 k y0 y1 y2 y3) (model_Values.j0 (k + 1) y0 y1 y2 y3))∧(∀ y0 y1 y2 y3 y4,LeO (model_Values.l0 k y0 y1 y2 y3 y4) (model_Values.l0 (k + 1) y0 y1 y2 y3 y4))
 | 0=>⟨fun _ _ _ _ r h=>by simp [model_Values.j0] at h,fun _ _ _ _ _ r h=>by simp [model_Values.l0] at h⟩
 | k + 1=>by
  obtain ⟨ih0,ih1⟩:=model_Values.mono_l k
  refine ⟨?_,?_⟩
  ·intro y0 y1 y2 y3
   unfold model_Values.j0
   repeat' first
   | (with_reducible exact ih0 _ _ _ _)
   | (with_reducible exact ih1 _ _ _ _ _)
   | (with_reducible exact model_Count.mono _ _ _)
   | (with_reducible exact LeO.refl _)
   | (with_reducible exact LeO.none _)
   | (with_reducible refine LeO.ite ?_ ?_)
   | (with_reducible refine LeO.bind ?_ (fun _=>?_))
   | exact ih0 _ _ _ _
   | exact ih1 _ _ _ _ _
   | exact model_Count.mono _ _ _
   | exact LeO.none _
   | refine LeO.ite ?_ ?_
   | refine LeO.bind ?_ (fun _=>?_)
  ·intro y0 y1 y2 y3 y4
   unfold model_Values.l0
   repeat' first
   | (with_reducible exact ih0 _ _ _ _)
   | (with_reducible exact ih1 _ _ _ _ _)
   | (with_reducible exact model_Count.mono _ _ _)
   | (with_reducible exact LeO.refl _)
   | (with_reducible exact LeO.none _)
   | (with_reducible refine LeO.ite ?_ ?_)
   | (with_reducible refine LeO.bind ?_ (fun _=>?_))
   | exact ih0 _ _ _ _
   | exact ih1 _ _ _ _ _
   | exact model_Count.mono _ _ _
   | exact LeO.none _
   | refine LeO.ite ?_ ?_
   | refine LeO.bind ?_ (fun _=>?_)
theorem model_Values.mono:∀ a0 a1 a2 k,LeO (model_Values.f k a0 a1 a2) (model_Values.f (k + 1) a0 a1 a2):=by
 intro a0 a1 a2 k
 obtain ⟨ih0,ih1⟩:=model_Values.mono_l k
 unfold model_Values.f
 repeat' first
   | (with_reducible exact ih0 _ _ _ _)
   | (with_reducible exact ih1 _ _ _ _ _)
   | (with_reducible exact model_Count.mono _ _ _)
   | (with_reducible exact LeO.refl _)
   | (with_reducible exact LeO.none _)
   | (with_reducible refine LeO.ite ?_ ?_)
   | (with_reducible refine LeO.bind ?_ (fun _=>?_))
   | exact ih0 _ _ _ _
   | exact ih1 _ _ _ _ _
   | exact model_Count.mono _ _ _
   | exact LeO.none _
   | refine LeO.ite ?_ ?_
   | refine LeO.bind ?_ (fun _=>?_)
def model_Values.T12:Bool × List (List Nat × List Nat):=(true,[([],[]),([],[]),([],[]),([2],[2]),([],[]),([],[]),([4,5],[4,5]),([3,6],[3,6]),([0,1,0,1,2,3,4,5,6,7],[0,1]),([8,7,0,1,2,3,4,5,6,7],[7,8])])
def model_Values.B12:List Nat:=[0,0,0,4,0,0,48,124,255,511]
theorem model_Values.tab12:rtab .any (opsOf Tryd.f30 12) = model_Values.T12:=by kernel_rfl
theorem model_Values.bits12:waitsOk model_Values.T12.2 model_Values.B12 = true:=by kernel_rfl
set_option maxHeartbeats 8000000 in
set_option maxRecDepth 100000 in
theorem model_Values.calls (k:Nat) (A0_0:Option Addr) (c0_0:Nat) (l0_0:List (S74)) (A0_1:Option Addr) (c0_1:Nat) (l0_1:List (S68)) (a1:Int) (r1:List Int) (r2:Int) (w:World) (hr0_0:Kd.C k74 w A0_0 l0_0.length l0_0) (hc0_0:l0_0.length ≤ c0_0) (hr0_1:Kd.C k68 w A0_1 l0_1.length l0_1) (hc0_1:l0_1.length ≤ c0_1) (hL:LaidG w) (h:model_Values.f k l0_0 l0_1 a1 = some (r1,r2)) :
  Calls Tryd.prog 30 #[.agg #[.slice A0_0 l0_0.length c0_0,.slice A0_1 l0_1.length c0_1],.int .i64 a1] w fun e w'=>∃ v0_:Value,e = .returned (.tuple #[v0_,.int .i64 r2])∧Kd.R (Kd.int .i64) 3 w' w.heap.size (fun _=>True) v0_ r1∧Below w.heap.size w w':=by
 have HLd:=zA hL
 clear hL
 have hu25:=Tryd.underlying25
 have hu74:=Tryd.underlying74
 have HR0_0:=zA hr0_0
 have HC0_0:=zA hc0_0
 clear hr0_0 hc0_0
 have HR0_1:=zA hr0_1
 have HC0_1:=zA hc0_1
 clear hr0_1 hc0_1
 have HB:=zA (Below.refl w.heap.size w)
 have H:((model_Count.f k l0_0 l0_1).bind fun bt177=>(if bt177.2 = 0 then (if a1 < 0 then (model_Values.j0 k a1 true l0_0 l0_1) else (model_Values.j0 k a1 (decide (a1 ≥ bt177.1)) l0_0 l0_1)) else (some (([]:List Int),bt177.2)))) = some (r1,r2):=h
 clear h
 replace H:=zb.mp H
 obtain ⟨⟨t177,t178⟩,A30,H⟩:=H
 replace H:(if t178 = 0 then (if a1 < 0 then (model_Values.j0 k a1 true l0_0 l0_1) else (model_Values.j0 k a1 (decide (a1 ≥ t177)) l0_0 l0_1)) else (some (([]:List Int),t178))) = some (r1,r2):=H
 have A3:=zA A30
 clear A30
 by_cases c4:t178 = 0
 ·rw [if_pos c4] at H
  have c4b0:(t178 == 0) = true:=beq_iff_eq.mpr c4
  have c4b1:(t178 != 0) = false:=bne_eq_false_iff_eq.mpr c4
  clear c4
  have HC5:=zA H
  clear H
  go_enter Tryd.func30,Tryd.ntmps30
  go_upto_region 4 with (first|((with_reducible refine zV (N:=2) rfl ?_);refine zW ?hg (N:=2) ?hd (cs:=#[.slice A0_0 l0_0.length c0_0,.slice A0_1 l0_1.length c0_1]) (t:=25) ?hr ?_;(case hd=>rfl);(case hg=>rfl);(case hr=>first|(go_simp;done)|(go_simp;rfl));intro gb176 hg w6 hbox hb;have n0_:=zA (zH (by repeat (first|(with_reducible first|exact HB.out|apply zD|apply zC|apply zE)|exact HB.out)) hb);have n1_:=zA (hbox);have n2_:=zA ((by rw [hg];exact (zG (by repeat (first|(with_reducible first|exact HB.out|apply zD|apply zC|apply zE)|exact HB.out))):w.heap.size ≤ gb176));have n3_:=zA ((by rw [hg];exact (zG (by repeat (first|(with_reducible first|exact HB.out|apply zD|apply zC|apply zE)|exact HB.out))):w.heap.size ≤ gb176));clear HB;have HB:=n0_;have BK176:=n1_;have GW176:=n2_;have GE176:=n3_;clear n0_ n1_ n2_ n3_;clear hb hbox hg;have hcz7_0:w6.cell? ⟨gb176,0,none⟩ = some (.slice A0_0 l0_0.length c0_0):=(zI BK176.out 0).trans rfl;have hcz7_1:w6.cell? ⟨gb176,1,none⟩ = some (.slice A0_1 l0_1.length c0_1):=(zI BK176.out 1).trans rfl;have hfz7_0:=zJ BK176.out 0;have hfz7_1:=zJ BK176.out 1)|((with_reducible refine zU (f:=19) rfl ?_);refine goesL_ (some 14) rfl rfl Tryd.func19 (by kernel_rfl) rfl #[.agg #[.slice A0_0 l0_0.length c0_0,.slice A0_1 l0_1.length c0_1]] rfl (by (try simp only [zx,zy,zz]);first|done|rfl|(simp only [zd,zt];rfl)) ?_;(with_reducible refine (model_Count.calls k _ _ l0_0 _ _ l0_1 t177 t178 _ ?side1 ?side2 ?side3 ?side4 ?side5 A3.out).mono ?_);(case side1=>repeat (first|exact (zT HR0_0.out HB.out)|(with_reducible refine Kd.C_alloc ?_ _)|(with_reducible refine Kd.C_drewN ?_ _)|(with_reducible refine Kd.C_drew ?_)));(case side2=>exact HC0_0.out);(case side3=>repeat (first|exact (zT HR0_1.out HB.out)|(with_reducible refine Kd.C_alloc ?_ _)|(with_reducible refine Kd.C_drewN ?_ _)|(with_reducible refine Kd.C_drew ?_)));(case side4=>exact HC0_1.out);(case side5=>first|exact LaidG.below HLd.out (by repeat (first|(with_reducible first|exact HB.out|apply zD|apply zC|apply zE|refine zF ?_ GE176.out)|exact HB.out))|(refine LaidG.below HLd.out ?_;repeat (with_reducible first|exact HB.out|exact Below.refl _ _|apply zD|apply zC|apply zE);done));rintro e w8 ⟨rfl,hb⟩;refine ⟨_,rfl,?_⟩;have n0_:=zA (zN (g:=gb176) (o:=.cells #[.slice A0_0 l0_0.length c0_0,.slice A0_1 l0_1.length c0_1] 25 (0,0)) (by (with_reducible repeat (first|refine zL ?_ _|refine zM ?_|refine zK ?_ _));exact BK176.out) hb);have n1_:=zA (zH (by repeat (first|(with_reducible first|exact HB.out|apply zD|apply zC|apply zE|refine zF ?_ GE176.out)|exact HB.out)) hb);clear BK176;clear HB;have BK176:=n0_;have HB:=n1_;clear n0_ n1_;(try clear hb);(try clear hb2);(try clear hk);(try clear hi)))
  (try simp only [Act.put,zX,zY,zZ])
  go_cut [26] (fun v26 wc=>∃ (kq:Nat) (x26_4:Bool),v26 = .bool x26_4∧Aside0 (model_Values.j0 kq a1 x26_4 l0_0 l0_1 = some (r1,r2))∧Aside0 (kq ≤ k)∧Aside0 (wc.heap[gb176]? = some (.cells #[(.slice A0_0 l0_0.length c0_0),(.slice A0_1 l0_1.length c0_1)] 25 (0,0)))∧Aside0 (Below w.heap.size w wc))
  case first =>
   have H:=HC5.out
   clear HC5
   by_cases c9:a1 < 0
   ·rw [if_pos c9] at H
    have c9b0:decide (a1 < 0) = true:=zQ c9
    clear c9
    (first|rw [c9b0]|(simp only [i64_w,i32_w];rw [c9b0])|skip)
    have H':=zA H
    clear H
    go_wp2
    go_meet
    case rel=>exact ⟨_,(true),(by first|rfl|(simp;done)|(simp [*];done)),H',⟨by first|omega|exact Nat.le_refl _⟩,⟨by (with_reducible repeat (first|refine zL ?_ _|refine zM ?_|refine zK ?_ _));exact BK176.out⟩,⟨by repeat (first|(with_reducible first|exact HB.out|apply zD|apply zC|apply zE|refine zF ?_ GE176.out)|exact HB.out)⟩⟩
   ·rw [if_neg c9] at H
    have c9b0:decide (a1 < 0) = false:=zR c9
    clear c9
    (first|rw [c9b0]|(simp only [i64_w,i32_w];rw [c9b0])|skip)
    have H':=zA H
    clear H
    go_wp2
    go_meet
    case rel=>exact ⟨_,(decide (a1 ≥ t177)),(by first|rfl|(simp;done)|(simp [*];done)),H',⟨by first|omega|exact Nat.le_refl _⟩,⟨by (with_reducible repeat (first|refine zL ?_ _|refine zM ?_|refine zK ?_ _));exact BK176.out⟩,⟨by repeat (first|(with_reducible first|exact HB.out|apply zD|apply zC|apply zE|refine zF ?_ GE176.out)|exact HB.out)⟩⟩
  case rest =>
   clear HC5
   try clear c1
   try clear p2
   try clear c3
   try clear c4
   try clear c4b0
   try clear c4b1
   try clear c9
   try clear c9b0
   try clear hcz7_0
   try clear hcz7_1
   try clear hfz7_0
   try clear hfz7_1
   obtain ⟨kq,x26_4,rfl,HA,HJ4,BK176,HB⟩:=hcut
   cases kq with
   | zero=>exact absurd HA.out (by simp [model_Values.j0])
   | succ kj4 =>
    have H:=HA.out
    clear HA
    simp only [model_Values.j0] at H
    by_cases c10:x26_4 = true
    ·subst c10
     have H1:(some (([]:List Int),9)) = some (r1,r2):=by rw [if_pos rfl] at H;exact H
     clear H
     have H:=H1
     clear H1
     simp only [Option.some.injEq,Prod.mk.injEq] at H
     obtain ⟨rfl,rfl⟩:=H
     go_wp2
     go_ret2
     exact ⟨_,by first|rfl|(simp [errW_none,errW_some] <;> rfl)|(simp [*,errW_none,errW_some] <;> rfl),by first|exact Kd.R_nil _ _ _ _ _|exact Kd.N_nil _ _ _ _ _|exact Kd.V_nil _ _ _ _ _|exact Kd.Q_nil _ _ _ _ _|exact Kd.S_nil _ _ _ _ _,by repeat (first|(with_reducible first|exact HB.out|apply zD|apply zC|apply zE|refine zF ?_ GE176.out)|exact HB.out)⟩
    ·replace c10:=Bool.eq_false_iff.mpr c10
     subst c10
     have H1:(if 0 ≤ (l0_0.length:Int) then (if ((l0_0.length:Int):Int).toNat ≤ 35184372088832 then (model_Values.l0 kj4 a1 (List.replicate ((l0_0.length:Int):Int).toNat 0) (wrap64 ((l0_0.length:Int) - 1)) l0_0 l0_1) else (none)) else (none)) = some (r1,r2):=by rw [if_neg (show ¬ (false = true) by decide)] at H;exact H
     clear H
     have H:=H1
     clear H1
     by_cases c11:0 ≤ (l0_0.length:Int)
     ·rw [if_pos c11] at H
      have c11b0:=eq_true c11
      have c11b1:decide (0 ≤ (l0_0.length:Int)) = true:=zQ c11
      clear c11
      by_cases c12:((l0_0.length:Int):Int).toNat ≤ 35184372088832
      ·rw [if_pos c12] at H
       have c12b0:=eq_true c12
       have c12b1:decide (((l0_0.length:Int):Int).toNat ≤ 35184372088832) = true:=zQ c12
       clear c12
       obtain ⟨y179,hy179⟩:∃ y_:List Int,y_ = (List.replicate ((l0_0.length:Int):Int).toNat 0):=⟨_,rfl⟩
       replace H:(model_Values.l0 kj4 a1 y179 (wrap64 ((l0_0.length:Int) - 1)) l0_0 l0_1) = some (r1,r2):=by first|(rw [hy179];with_reducible exact H)|(have H2_:=(Option.bind_some _ _).symm.trans H;rw [hy179];with_reducible exact H2_)|(have H2_:=(Option.bind_some _ _).symm.trans H;with_reducible exact H2_)|with_reducible exact H|(rw [hy179];exact H)|exact H
       have Ny179:=zA hy179
       clear hy179
       have H':=zA H
       clear H
       have hcz13_0:wc.cell? ⟨gb176,0,none⟩ = some (.slice A0_0 l0_0.length c0_0):=(zI BK176.out 0).trans rfl
       have hcz13_1:wc.cell? ⟨gb176,1,none⟩ = some (.slice A0_1 l0_1.length c0_1):=(zI BK176.out 1).trans rfl
       have hfz13_0:=zJ BK176.out 0
       have hfz13_1:=zJ BK176.out 1
       go_wp2_with (first|((with_reducible refine zV (N:=30) rfl ?_);refine Kd.R_make (Kd.int .i64) _ 3 rfl (N:=30) rfl 37 _ _ rfl (l0_0.length:Int) rfl rfl Tryd.underlying37 (.int .i64 0) 8 info3 rfl (by decide) (by omega) 0 (ok:=fun _=>True) (okp:=fun _=>True) rfl (fun _ hk=>hk) trivial (zP (by assumption)) (Nat.le_trans (Nat.mul_le_mul_right _ (zP (by assumption):(l0_0.length:Int).toNat ≤ 35184372088832)) (by omega)) (Below.refl _ _) (Nat.le_refl _) ?_;intro v180 w14 ho15 hb hg_ hnew_;clear hg_ hnew_;(first|rw [← Ny179.out] at ho15|(simp only [Int.reduceToNat] at ho15;rw [← Ny179.out] at ho15));have n0_:=zA (Kd.R_lower ho15 (zG (by repeat (first|(with_reducible first|exact HB.out|apply zD|apply zC|apply zE|refine zF ?_ GE176.out)|exact HB.out))));have n1_:=zA (zN (g:=gb176) (o:=.cells #[.slice A0_0 l0_0.length c0_0,.slice A0_1 l0_1.length c0_1] 25 (0,0)) (by (with_reducible repeat (first|refine zL ?_ _|refine zM ?_|refine zK ?_ _));exact BK176.out) hb);have n2_:=zA (zH (by repeat (first|(with_reducible first|exact HB.out|apply zD|apply zC|apply zE|refine zF ?_ GE176.out)|exact HB.out)) hb);clear BK176;clear HB;have HO181:=n0_;have BK176:=n1_;have HB:=n2_;clear n0_ n1_ n2_;clear hb ho15;have hcz16_0:w14.cell? ⟨gb176,0,none⟩ = some (.slice A0_0 l0_0.length c0_0):=(zI BK176.out 0).trans rfl;have hcz16_1:w14.cell? ⟨gb176,1,none⟩ = some (.slice A0_1 l0_1.length c0_1):=(zI BK176.out 1).trans rfl;have hfz16_0:=zJ BK176.out 0;have hfz16_1:=zJ BK176.out 1))
       go_loopg [1,9] kj4 (fun kq v1 v9 w'=>∃ (x1_2:Int) (x8_2:List Int) (x9_2:Int),v1 = .int .i64 x1_2∧v9 = .int .i64 x9_2∧Aside0 (model_Values.l0 kq x1_2 x8_2 x9_2 l0_0 l0_1 = some (r1,r2))∧Aside0 (kq ≤ kj4)∧Aside0 (Kd.R (Kd.int .i64) 3 w' w.heap.size (fun _=>True) v180 x8_2)∧Aside0 (w'.heap[gb176]? = some (.cells #[(.slice A0_0 l0_0.length c0_0),(.slice A0_1 l0_1.length c0_1)] 25 (0,0)))∧Aside0 (Below w.heap.size w w'))
       case atStart=>exact ⟨(a1),(y179),(wrap64 ((l0_0.length:Int) - 1)),(by first|rfl|(simp;done)|(simp [*];done)),(by first|rfl|(simp;done)|(simp [*];done)),H',⟨Nat.le_refl _⟩,⟨by (with_reducible repeat (first|apply Kd.R_alloc|apply Kd.R_drewN|apply Kd.R_drew));exact HO181.out⟩,⟨by (with_reducible repeat (first|refine zL ?_ _|refine zM ?_|refine zK ?_ _));exact BK176.out⟩,⟨by repeat (first|(with_reducible first|exact HB.out|apply zD|apply zC|apply zE|refine zF ?_ GE176.out)|exact HB.out)⟩⟩
       case round =>
        clear H'
        try clear c1
        try clear p2
        try clear c3
        try clear c4
        try clear c4b0
        try clear c4b1
        try clear p6
        try clear c9
        try clear c9b0
        try clear c10
        try clear c11
        try clear c11b0
        try clear c11b1
        try clear c12
        try clear c12b0
        try clear c12b1
        try clear hcz13_0
        try clear hcz13_1
        try clear hcz16_0
        try clear hcz16_1
        try clear hcz7_0
        try clear hcz7_1
        try clear hfz13_0
        try clear hfz13_1
        try clear hfz16_0
        try clear hfz16_1
        try clear hfz7_0
        try clear hfz7_1
        try clear p2
        obtain ⟨x1_2,x8_2,x9_2,rfl,rfl,HA,HK2,HO_8,BK176,HB⟩:=hrel
        cases gk with
        | zero=>exact absurd HA.out (by simp [model_Values.l0])
        | succ k2 =>
         have H:=HA.out
         clear HA
         simp only [model_Values.l0] at H
         by_cases c17:x9_2 ≥ 0
         ·rw [if_pos c17] at H
          have c17b0:decide (0 ≤ x9_2) = true:=zQ c17
          clear c17
          by_cases c18:0 ≤ x9_2
          ·rw [if_pos c18] at H
           have c18b0:decide (0 ≤ x9_2) = true:=zQ c18
           clear c18
           by_cases c19:x9_2 < (l0_0.length:Int)
           ·rw [if_pos c19] at H
            have c19b0:decide (x9_2 < (l0_0.length:Int)) = true:=zQ c19
            clear c19
            by_cases c20:(wrap64 ((wrap64 (((rd_T74 l0_0 x9_2).f2) - ((rd_T74 l0_0 x9_2).f1))) + 1)) = 0
            ·rw [if_pos c20] at H
             exact absurd H (by simp)
            ·rw [if_neg c20] at H
             have c20b0:((wrap64 ((wrap64 (((rd_T74 l0_0 x9_2).f2) - ((rd_T74 l0_0 x9_2).f1))) + 1)) == 0) = false:=beq_eq_false_iff_ne.mpr c20
             have c20b1:((wrap64 ((wrap64 (((rd_T74 l0_0 x9_2).f2) - ((rd_T74 l0_0 x9_2).f1))) + 1)) != 0) = true:=bne_iff_ne.mpr c20
             by_cases c21:x9_2 < (x8_2.length:Int)
             ·rw [if_pos c21] at H
              have c21b0:decide (x9_2 < (x8_2.length:Int)) = true:=zQ c21
              clear c21
              obtain ⟨y184,hy184⟩:∃ y_:List Int,y_ = (x8_2.set (x9_2:Int).toNat (wrap64 (((rd_T74 l0_0 x9_2).f1) + (Int.tmod x1_2 (wrap64 ((wrap64 (((rd_T74 l0_0 x9_2).f2) - ((rd_T74 l0_0 x9_2).f1))) + 1)))))):=⟨_,rfl⟩
              replace H:(model_Values.l0 k2 (wrap64 (Int.tdiv x1_2 (wrap64 ((wrap64 (((rd_T74 l0_0 x9_2).f2) - ((rd_T74 l0_0 x9_2).f1))) + 1)))) y184 (wrap64 (x9_2 - 1)) l0_0 l0_1) = some (r1,r2):=by first|(rw [hy184];with_reducible exact H)|(have H2_:=(Option.bind_some _ _).symm.trans H;rw [hy184];with_reducible exact H2_)|(have H2_:=(Option.bind_some _ _).symm.trans H;with_reducible exact H2_)|with_reducible exact H|(rw [hy184];exact H)|exact H
              have Ny184:=zA hy184
              clear hy184
              have H':=zA H
              clear H
              have hcz23_0:wr.cell? ⟨gb176,0,none⟩ = some (.slice A0_0 l0_0.length c0_0):=(zI BK176.out 0).trans rfl
              have hcz23_1:wr.cell? ⟨gb176,1,none⟩ = some (.slice A0_1 l0_1.length c0_1):=(zI BK176.out 1).trans rfl
              have hfz23_0:=zJ BK176.out 0
              have hfz23_1:=zJ BK176.out 1
              have p182:0 ≤ (x9_2:Int):=zP (by assumption)
              have q182:x9_2 < (l0_0.length:Int):=zP (by assumption)
              obtain ⟨ad182,e182,hx182_0,hx182_1,hx182_2,hx182_3⟩:=at_T74 HR0_0.out x9_2 p182 q182
              cases e182
              replace hx182_0:=(HB.out.cell (zB w _ hx182_0)).trans hx182_0
              replace hx182_1:=(HB.out.cell (zB w _ hx182_1)).trans hx182_1
              replace hx182_2:=(HB.out.cell (zB w _ hx182_2)).trans hx182_2
              replace hx182_3:=(HB.out.cell (zB w _ hx182_3)).trans hx182_3
              replace p182:=eq_true p182
              replace q182:=eq_true q182
              try go_wp2_with (first|((with_reducible refine zV (N:=10) rfl ?_);refine zW ?hg (N:=10) ?hd (cs:=#[.string (⟨#[]⟩:ByteArray),.int .i64 0,.int .i64 0,.int .i64 0]) (t:=74) ?hr ?_;(case hd=>rfl);(case hg=>rfl);(case hr=>first|(go_simp;done)|(go_simp;rfl));intro gb183 hg w24 hbox hb;have n0_:=zA (Kd.R_below (by (with_reducible repeat (first|apply Kd.R_alloc|apply Kd.R_drewN|apply Kd.R_drew));exact HO_8.out) hb);have n1_:=zA (zN (g:=gb176) (o:=.cells #[.slice (some ad182) l0_0.length c0_0,.slice A0_1 l0_1.length c0_1] 25 (0,0)) (by (with_reducible repeat (first|refine zL ?_ _|refine zM ?_|refine zK ?_ _));exact BK176.out) hb);have n2_:=zA (zH (by repeat (first|(with_reducible first|exact HB.out|apply zD|apply zC|apply zE|refine zF ?_ GE176.out)|exact HB.out)) hb);have n3_:=zA (hbox);have n4_:=zA ((by rw [hg];exact (zG (by repeat (first|(with_reducible first|exact HB.out|apply zD|apply zC|apply zE|refine zF ?_ GE176.out)|exact HB.out))):w.heap.size ≤ gb183));have n5_:=zA ((by rw [hg];exact (zG (by repeat (first|(with_reducible first|exact HB.out|apply zD|apply zC|apply zE|refine zF ?_ GE176.out)|exact HB.out))):w.heap.size ≤ gb183));have n6_:=zA ((by rw [hg];exact Nat.ne_of_lt (blk_lt (g:=gb176) (o:=.cells #[.slice (some ad182) l0_0.length c0_0,.slice A0_1 l0_1.length c0_1] 25 (0,0)) (by (with_reducible repeat (first|refine zL ?_ _|refine zM ?_|refine zK ?_ _));exact BK176.out)):gb176 ≠ gb183));have n7_:=zA ((by rw [hg];exact Nat.ne_of_gt (blk_lt (g:=gb176) (o:=.cells #[.slice (some ad182) l0_0.length c0_0,.slice A0_1 l0_1.length c0_1] 25 (0,0)) (by (with_reducible repeat (first|refine zL ?_ _|refine zM ?_|refine zK ?_ _));exact BK176.out)):gb183 ≠ gb176));clear HO_8;clear BK176;clear HB;have HO_8:=n0_;have BK176:=n1_;have HB:=n2_;have BK183:=n3_;have GW183:=n4_;have GE183:=n5_;have NB176_183:=n6_;have NB183_176:=n7_;clear n0_ n1_ n2_ n3_ n4_ n5_ n6_ n7_;clear hb hbox hg;have hnb25:=NB183_176.out;have hnc25:=NB176_183.out;have hcz26_0:w24.cell? ⟨gb183,0,none⟩ = some (.string (⟨#[]⟩:ByteArray)):=(zI BK183.out 0).trans rfl;have hcz26_1:w24.cell? ⟨gb183,1,none⟩ = some (.int .i64 0):=(zI BK183.out 1).trans rfl;have hcz26_2:w24.cell? ⟨gb183,2,none⟩ = some (.int .i64 0):=(zI BK183.out 2).trans rfl;have hcz26_3:w24.cell? ⟨gb183,3,none⟩ = some (.int .i64 0):=(zI BK183.out 3).trans rfl;have hfz26_0:=zJ BK183.out 0;have hfz26_1:=zJ BK183.out 1;have hfz26_2:=zJ BK183.out 2;have hfz26_3:=zJ BK183.out 3))
              have n0_:Aside0 (Kd.R (Kd.int .i64) 3 ((((w24.setCell ⟨gb183,0,none⟩ (.string ((rd_T74 l0_0 x9_2).f0))).setCell ⟨gb183,1,none⟩ (.int .i64 ((rd_T74 l0_0 x9_2).f1))).setCell ⟨gb183,2,none⟩ (.int .i64 ((rd_T74 l0_0 x9_2).f2))).setCell ⟨gb183,3,none⟩ (.int .i64 ((rd_T74 l0_0 x9_2).f3))) w.heap.size (fun _=>True) v180 x8_2):=⟨by (with_reducible repeat (first|apply Kd.R_alloc|apply Kd.R_drewN|apply Kd.R_drew));exact Kd.R_mono (Kd.R_far (p:=⟨gb183,3,none⟩) (Kd.R_far (p:=⟨gb183,2,none⟩) (Kd.R_far (p:=⟨gb183,1,none⟩) (Kd.R_far (p:=⟨gb183,0,none⟩) (Kd.R_types HO_8.out BK183.out (by decide)) (fun _ hk=>hk.2) (.string ((rd_T74 l0_0 x9_2).f0))) (fun _ hk=>hk.2) (.int .i64 ((rd_T74 l0_0 x9_2).f1))) (fun _ hk=>hk.2) (.int .i64 ((rd_T74 l0_0 x9_2).f2))) (fun _ hk=>hk.2) (.int .i64 ((rd_T74 l0_0 x9_2).f3))) (fun _ hk=>trivial)⟩
              have n1_:Aside0 (((((w24.setCell ⟨gb183,0,none⟩ (.string ((rd_T74 l0_0 x9_2).f0))).setCell ⟨gb183,1,none⟩ (.int .i64 ((rd_T74 l0_0 x9_2).f1))).setCell ⟨gb183,2,none⟩ (.int .i64 ((rd_T74 l0_0 x9_2).f2))).setCell ⟨gb183,3,none⟩ (.int .i64 ((rd_T74 l0_0 x9_2).f3))).heap[gb176]? = some (.cells #[.slice (some ad182) l0_0.length c0_0,.slice A0_1 l0_1.length c0_1] 25 (0,0))):=⟨by (with_reducible repeat (first|refine zL ?_ _|refine zM ?_|refine zK ?_ _));refine blk_far ?_ NB176_183.out _;(with_reducible repeat (first|refine zL ?_ _|refine zM ?_|refine zK ?_ _));refine blk_far ?_ NB176_183.out _;(with_reducible repeat (first|refine zL ?_ _|refine zM ?_|refine zK ?_ _));refine blk_far ?_ NB176_183.out _;(with_reducible repeat (first|refine zL ?_ _|refine zM ?_|refine zK ?_ _));refine blk_far ?_ NB176_183.out _;(with_reducible repeat (first|refine zL ?_ _|refine zM ?_|refine zK ?_ _));exact BK176.out⟩
              have n2_:Aside0 (((((w24.setCell ⟨gb183,0,none⟩ (.string ((rd_T74 l0_0 x9_2).f0))).setCell ⟨gb183,1,none⟩ (.int .i64 ((rd_T74 l0_0 x9_2).f1))).setCell ⟨gb183,2,none⟩ (.int .i64 ((rd_T74 l0_0 x9_2).f2))).setCell ⟨gb183,3,none⟩ (.int .i64 ((rd_T74 l0_0 x9_2).f3))).heap[gb183]? = some (.cells #[.string ((rd_T74 l0_0 x9_2).f0),.int .i64 ((rd_T74 l0_0 x9_2).f1),.int .i64 ((rd_T74 l0_0 x9_2).f2),.int .i64 ((rd_T74 l0_0 x9_2).f3)] 74 (0,0))):=⟨by (with_reducible repeat (first|refine zL ?_ _|refine zM ?_|refine zK ?_ _));refine zO (cs:=#[.string ((rd_T74 l0_0 x9_2).f0),.int .i64 ((rd_T74 l0_0 x9_2).f1),.int .i64 ((rd_T74 l0_0 x9_2).f2),.int .i64 0]) ?_ 3 _ rfl;(with_reducible repeat (first|refine zL ?_ _|refine zM ?_|refine zK ?_ _));refine zO (cs:=#[.string ((rd_T74 l0_0 x9_2).f0),.int .i64 ((rd_T74 l0_0 x9_2).f1),.int .i64 0,.int .i64 0]) ?_ 2 _ rfl;(with_reducible repeat (first|refine zL ?_ _|refine zM ?_|refine zK ?_ _));refine zO (cs:=#[.string ((rd_T74 l0_0 x9_2).f0),.int .i64 0,.int .i64 0,.int .i64 0]) ?_ 1 _ rfl;(with_reducible repeat (first|refine zL ?_ _|refine zM ?_|refine zK ?_ _));refine zO (cs:=#[.string (⟨#[]⟩:ByteArray),.int .i64 0,.int .i64 0,.int .i64 0]) ?_ 0 _ rfl;(with_reducible repeat (first|refine zL ?_ _|refine zM ?_|refine zK ?_ _));exact BK183.out⟩
              have n3_:Aside0 (Below w.heap.size w ((((w24.setCell ⟨gb183,0,none⟩ (.string ((rd_T74 l0_0 x9_2).f0))).setCell ⟨gb183,1,none⟩ (.int .i64 ((rd_T74 l0_0 x9_2).f1))).setCell ⟨gb183,2,none⟩ (.int .i64 ((rd_T74 l0_0 x9_2).f2))).setCell ⟨gb183,3,none⟩ (.int .i64 ((rd_T74 l0_0 x9_2).f3)))):=⟨by repeat (first|(with_reducible first|exact HB.out|apply zD|apply zC|apply zE|refine zF ?_ GE176.out|refine zF ?_ GE183.out)|exact HB.out)⟩
              (try clear HO_8)
              (try clear BK176)
              (try clear BK183)
              (try clear HB)
              generalize ((((w24.setCell ⟨gb183,0,none⟩ (.string ((rd_T74 l0_0 x9_2).f0))).setCell ⟨gb183,1,none⟩ (.int .i64 ((rd_T74 l0_0 x9_2).f1))).setCell ⟨gb183,2,none⟩ (.int .i64 ((rd_T74 l0_0 x9_2).f2))).setCell ⟨gb183,3,none⟩ (.int .i64 ((rd_T74 l0_0 x9_2).f3))) = w27 at n0_ n1_ n2_ n3_ ⊢
              have HO_8:=n0_
              have BK176:=n1_
              have BK183:=n2_
              have HB:=n3_
              clear n0_ n1_ n2_ n3_
              have n0_:=zA (Kd.R_drew HO_8.out)
              have n1_:=zA (zM BK176.out)
              have n2_:=zA (zM BK183.out)
              have n3_:=zA (zE HB.out)
              clear HO_8
              clear BK176
              clear BK183
              clear HB
              have HO_8:=n0_
              have BK176:=n1_
              have BK183:=n2_
              have HB:=n3_
              clear n0_ n1_ n2_ n3_
              have p22:0 ≤ (x9_2:Int):=zP (by assumption)
              have q22:(x9_2:Int) < ((x8_2.length:Int):Int):=zP (by assumption)
              obtain ⟨go22,co22,eo22,gb22,gl22,cl22,HG22⟩:=Kd.R_form HO_8.out (by omega)
              (first|cases eo22|(injection eo22 with ea_ en_ ec_;(first|subst ea_|(injection ea_ with ea_;subst ea_));subst ec_;clear en_))
              have GB22:=zA gb22
              have GG22:=zA HG22
              clear gb22 gl22 HG22
              obtain ⟨hx22_0,hf22_0⟩:=Kd.R_celln 0 HO_8.out (x9_2:Int) p22 q22
              replace p22:=eq_true p22
              replace q22:=eq_true q22
              have HP29:=Kd.R_putn HO_8.out (x9_2:Int) (wrap64 (((rd_T74 l0_0 x9_2).f1) + (Int.tmod x1_2 (wrap64 ((wrap64 (((rd_T74 l0_0 x9_2).f2) - ((rd_T74 l0_0 x9_2).f1))) + 1)))))
              rw [← Ny184.out] at HP29
              have HQ29:=zA HP29
              clear HP29
              refine start_ (n:=10) (S:=fun w'=>w'.cell? ⟨gb183,0,none⟩ = some (.string ((rd_T74 l0_0 x9_2).f0))∧w'.cell? ⟨gb183,1,none⟩ = some (.int .i64 ((rd_T74 l0_0 x9_2).f1))∧w'.cell? ⟨gb183,2,none⟩ = some (.int .i64 ((rd_T74 l0_0 x9_2).f2))∧w'.cell? ⟨gb183,3,none⟩ = some (.int .i64 ((rd_T74 l0_0 x9_2).f3))) (ds:=[9]) #[false,false,false,false,false,false,false,false,false,false] (by kernel_rfl) rfl rfl ⟨(zI BK183.out 0).trans rfl,(zI BK183.out 1).trans rfl,(zI BK183.out 2).trans rfl,(zI BK183.out 3).trans rfl⟩ (fun hHeld=>?_);refine with_tabW model_Values.tab12 model_Values.bits12 (fun HT_ HW_=>?_)
              generalize w27.drew = w28 at HO_8 BK176 BK183 HB GG22 HQ29 hf22_0 hx22_0 hHeld ⊢
              refine pure_ (i:=0) (N:=some 50) (v:=?_) (a':=?_) #[true,false,false,false,false,false,false,false,false,false] rfl rfl (any_of HT_.out (by kernel_rfl)) (fun _ _ _ h=>h) (Or.inl ⟨by rfl,?_⟩) ?_ ?_
              rotate_left
              ·intro w'
               go_simp
               with_reducible rfl
              rotate_left
              ·simp only [Act.put,zX,zY,zZ,i64_w,i32_w]
               rfl
              refine pure_ (i:=1) (N:=some 51) (v:=?_) (a':=?_) #[true,true,false,false,false,false,false,false,false,false] rfl rfl (any_of HT_.out (by kernel_rfl)) (fun _ _ _ h=>h) (Or.inl ⟨by rfl,?_⟩) ?_ ?_
              rotate_left
              ·intro w'
               go_simp
               with_reducible rfl
              rotate_left
              ·simp only [Act.put,zX,zY,zZ,i64_w,i32_w]
               rfl
              refine pure_ (i:=2) (N:=some 52) (v:=?_) (a':=?_) #[true,true,true,false,false,false,false,false,false,false] rfl rfl (any_of HT_.out (by kernel_rfl)) (fun _ _ _ h=>h) (Or.inl ⟨by rfl,?_⟩) ?_ ?_
              rotate_left
              ·intro w'
               go_simp
               with_reducible rfl
              rotate_left
              ·simp only [Act.put,zX,zY,zZ,i64_w,i32_w]
               rfl
              refine pure_ (i:=4) (N:=some 54) (v:=?_) (a':=?_) #[true,true,true,false,true,false,false,false,false,false] rfl rfl (any_of HT_.out (by kernel_rfl)) (fun _ _ _ h=>h) (Or.inl ⟨by rfl,?_⟩) ?_ ?_
              rotate_left
              ·intro w'
               go_simp
               with_reducible rfl
              rotate_left
              ·simp only [Act.put,zX,zY,zZ,i64_w,i32_w]
               rfl
              refine pure_ (i:=5) (N:=some 55) (v:=?_) (a':=?_) #[true,true,true,false,true,true,false,false,false,false] rfl rfl (any_of HT_.out (by kernel_rfl)) (fun _ _ _ h=>h) (Or.inl ⟨by rfl,?_⟩) ?_ ?_
              rotate_left
              ·intro w'
               go_simp
               with_reducible rfl
              rotate_left
              ·simp only [Act.put,zX,zY,zZ,i64_w,i32_w]
               rfl
              refine pure_ (i:=6) (N:=some 56) (v:=?_) (a':=?_) #[true,true,true,false,true,true,true,false,false,false] rfl rfl (any_of HT_.out (by kernel_rfl)) (fun _ _ _ h=>h) (Or.inl ⟨by rfl,?_⟩) ?_ ?_
              rotate_left
              ·intro w'
               go_simp
               with_reducible rfl
              rotate_left
              ·simp only [Act.put,zX,zY,zZ,i64_w,i32_w]
               rfl
              refine take_ (i:=3) (N:=some 53) (v:=?_) (a':=?_) #[true,true,true,true,true,true,true,false,false,false] rfl rfl (take_ofW HT_.out HW_.out (by kernel_rfl)) (fun _ _ _ h=>h) (Or.inl ⟨by rfl,?_⟩) hHeld ?_ ?_
              rotate_left
              ·rintro w' ⟨s0,s1,s2,s3⟩
               go_simp
               with_reducible rfl
              rotate_left
              ·simp only [Act.put,zX,zY,zZ,i64_w,i32_w]
               rfl
              refine pure_ (i:=7) (N:=some 57) (v:=?_) (a':=?_) #[true,true,true,true,true,true,true,true,false,false] rfl rfl (any_of HT_.out (by kernel_rfl)) (fun _ _ _ h=>h) (Or.inl ⟨by rfl,?_⟩) ?_ ?_
              rotate_left
              ·intro w'
               go_simp
               with_reducible rfl
              rotate_left
              ·simp only [Act.put,zX,zY,zZ,i64_w,i32_w]
               rfl
              refine pure_ (i:=8) (N:=some 58) (v:=?_) (a':=?_) #[true,true,true,true,true,true,true,true,true,false] rfl rfl (any_of HT_.out (by kernel_rfl)) (fun _ _ _ h=>h) (Or.inl ⟨by rfl,?_⟩) ?_ ?_
              rotate_left
              ·intro w'
               go_simp
               with_reducible rfl
              rotate_left
              ·simp only [Act.put,zX,zY,zZ,i64_w,i32_w]
               rfl
              refine last_ (i:=9) (N:=none) #[true,true,true,true,true,true,true,true,true,true] rfl rfl (one_of HT_.out (by kernel_rfl)) (by decide) (fun K hK=>?_)
              refine skip_ (w1:=?_) (by rfl) rfl ?_ ?_
              rotate_left
              ·go_simp
               rfl
              refine hK.out _ _ ?_
              clear hK K
              refine done_ (done_of HT_.out (by kernel_rfl)) ?_
              try go_wp2
              go_roundg k2
              case measure=>have:=HJ4.out;have:=HK2.out;omega
              case rel=>exact ⟨(wrap64 (Int.tdiv x1_2 (wrap64 ((wrap64 (((rd_T74 l0_0 x9_2).f2) - ((rd_T74 l0_0 x9_2).f1))) + 1)))),(y184),(wrap64 (x9_2 - 1)),(by first|rfl|(simp;done)|(simp [*];done)),(by first|rfl|(simp;done)|(simp [*];done)),H',⟨by have:=HJ4.out;have:=HK2.out;omega⟩,⟨by (with_reducible repeat (first|apply Kd.R_alloc|apply Kd.R_drewN|apply Kd.R_drew));exact HQ29.out⟩,⟨by (with_reducible repeat (first|refine zL ?_ _|refine zM ?_|refine zK ?_ _));refine blk_far ?_ (by have h_:=Kd.R_ne HO_8.out BK176.out (by decide);intro e_;exact h_ (by rw [e_];rfl)) _;(with_reducible repeat (first|refine zL ?_ _|refine zM ?_|refine zK ?_ _));exact BK176.out⟩,⟨by repeat (first|(with_reducible first|exact HB.out|apply zD|apply zC|apply zE|refine zF ?_ GB22.out|refine zF ?_ GE176.out|refine zF ?_ GE183.out)|exact HB.out)⟩⟩
             ·rw [if_neg c21] at H
              exact absurd H (by simp)
           ·rw [if_neg c19] at H
            exact absurd H (by simp)
          ·rw [if_neg c18] at H
           exact absurd H (by simp)
         ·rw [if_neg c17] at H
          have c17b0:decide (0 ≤ x9_2) = false:=zR c17
          clear c17
          simp only [Option.some.injEq,Prod.mk.injEq] at H
          obtain ⟨rfl,rfl⟩:=H
          go_wp2
          go_ret2
          exact ⟨_,by first|rfl|(simp [errW_none,errW_some] <;> rfl)|(simp [*,errW_none,errW_some] <;> rfl),by (with_reducible repeat (first|apply Kd.R_alloc|apply Kd.R_drewN|apply Kd.R_drew));exact HO_8.out,by repeat (first|(with_reducible first|exact HB.out|apply zD|apply zC|apply zE|refine zF ?_ GE176.out)|exact HB.out)⟩
      ·rw [if_neg c12] at H
       exact absurd H (by simp)
     ·rw [if_neg c11] at H
      exact absurd H (by simp)
 ·rw [if_neg c4] at H
  have c4b0:(t178 == 0) = false:=beq_eq_false_iff_ne.mpr c4
  have c4b1:(t178 != 0) = true:=bne_iff_ne.mpr c4
  simp only [Option.some.injEq,Prod.mk.injEq] at H
  obtain ⟨rfl,rfl⟩:=H
  go_enter Tryd.func30,Tryd.ntmps30
  go_wp2_with (first|((with_reducible refine zV (N:=2) rfl ?_);refine zW ?hg (N:=2) ?hd (cs:=#[.slice A0_0 l0_0.length c0_0,.slice A0_1 l0_1.length c0_1]) (t:=25) ?hr ?_;(case hd=>rfl);(case hg=>rfl);(case hr=>first|(go_simp;done)|(go_simp;rfl));intro gb176 hg w30 hbox hb;have n0_:=zA (zH (by repeat (first|(with_reducible first|exact HB.out|apply zD|apply zC|apply zE)|exact HB.out)) hb);have n1_:=zA (hbox);have n2_:=zA ((by rw [hg];exact (zG (by repeat (first|(with_reducible first|exact HB.out|apply zD|apply zC|apply zE)|exact HB.out))):w.heap.size ≤ gb176));have n3_:=zA ((by rw [hg];exact (zG (by repeat (first|(with_reducible first|exact HB.out|apply zD|apply zC|apply zE)|exact HB.out))):w.heap.size ≤ gb176));clear HB;have HB:=n0_;have BK176:=n1_;have GW176:=n2_;have GE176:=n3_;clear n0_ n1_ n2_ n3_;clear hb hbox hg;have hcz31_0:w30.cell? ⟨gb176,0,none⟩ = some (.slice A0_0 l0_0.length c0_0):=(zI BK176.out 0).trans rfl;have hcz31_1:w30.cell? ⟨gb176,1,none⟩ = some (.slice A0_1 l0_1.length c0_1):=(zI BK176.out 1).trans rfl;have hfz31_0:=zJ BK176.out 0;have hfz31_1:=zJ BK176.out 1)|((with_reducible refine zU (f:=19) rfl ?_);refine goesL_ (some 14) rfl rfl Tryd.func19 (by kernel_rfl) rfl #[.agg #[.slice A0_0 l0_0.length c0_0,.slice A0_1 l0_1.length c0_1]] rfl (by (try simp only [zx,zy,zz]);first|done|rfl|(simp only [zd,zt];rfl)) ?_;(with_reducible refine (model_Count.calls k _ _ l0_0 _ _ l0_1 t177 t178 _ ?side1 ?side2 ?side3 ?side4 ?side5 A3.out).mono ?_);(case side1=>repeat (first|exact (zT HR0_0.out HB.out)|(with_reducible refine Kd.C_alloc ?_ _)|(with_reducible refine Kd.C_drewN ?_ _)|(with_reducible refine Kd.C_drew ?_)));(case side2=>exact HC0_0.out);(case side3=>repeat (first|exact (zT HR0_1.out HB.out)|(with_reducible refine Kd.C_alloc ?_ _)|(with_reducible refine Kd.C_drewN ?_ _)|(with_reducible refine Kd.C_drew ?_)));(case side4=>exact HC0_1.out);(case side5=>first|exact LaidG.below HLd.out (by repeat (first|(with_reducible first|exact HB.out|apply zD|apply zC|apply zE|refine zF ?_ GE176.out)|exact HB.out))|(refine LaidG.below HLd.out ?_;repeat (with_reducible first|exact HB.out|exact Below.refl _ _|apply zD|apply zC|apply zE);done));rintro e w32 ⟨rfl,hb⟩;refine ⟨_,rfl,?_⟩;have n0_:=zA (zN (g:=gb176) (o:=.cells #[.slice A0_0 l0_0.length c0_0,.slice A0_1 l0_1.length c0_1] 25 (0,0)) (by (with_reducible repeat (first|refine zL ?_ _|refine zM ?_|refine zK ?_ _));exact BK176.out) hb);have n1_:=zA (zH (by repeat (first|(with_reducible first|exact HB.out|apply zD|apply zC|apply zE|refine zF ?_ GE176.out)|exact HB.out)) hb);clear BK176;clear HB;have BK176:=n0_;have HB:=n1_;clear n0_ n1_;(try clear hb);(try clear hb2);(try clear hk);(try clear hi)))
  go_ret2
  exact ⟨_,by first|rfl|(simp [errW_none,errW_some] <;> rfl)|(simp [*,errW_none,errW_some] <;> rfl),by first|exact Kd.R_nil _ _ _ _ _|exact Kd.N_nil _ _ _ _ _|exact Kd.V_nil _ _ _ _ _|exact Kd.Q_nil _ _ _ _ _|exact Kd.S_nil _ _ _ _ _,by repeat (first|(with_reducible first|exact HB.out|apply zD|apply zC|apply zE|refine zF ?_ GE176.out)|exact HB.out)⟩
def foretellref_StateCount.f (k:Nat) (l0_0:List (S74)) (l0_1:List (S68)):Option (Int × Int):=(foretellref_ModelFault.f k l0_0 l0_1).bind fun t287=>(if t287 = 0 then ((foretellref_behindVar.f k l0_0 l0_1 (-1)).bind fun t288=>(some (t288,0))) else (some (0,t287)))
theorem foretellref_StateCount.mono:∀ a0 a1 k,LeO (foretellref_StateCount.f k a0 a1) (foretellref_StateCount.f (k + 1) a0 a1):=by
 intro a0 a1 k
 unfold foretellref_StateCount.f
 repeat' first
   | (with_reducible exact foretellref_ModelFault.mono _ _ _)
   | (with_reducible exact foretellref_behindVar.mono _ _ _ _)
   | (with_reducible exact LeO.refl _)
   | (with_reducible exact LeO.none _)
   | (with_reducible refine LeO.ite ?_ ?_)
   | (with_reducible refine LeO.bind ?_ (fun _=>?_))
   | exact foretellref_ModelFault.mono _ _ _
   | exact foretellref_behindVar.mono _ _ _ _
   | exact LeO.none _
   | refine LeO.ite ?_ ?_
   | refine LeO.bind ?_ (fun _=>?_)
set_option maxHeartbeats 8000000 in
set_option maxRecDepth 100000 in
theorem foretellref_StateCount.calls (k:Nat) (A0_0:Option Addr) (c0_0:Nat) (l0_0:List (S74)) (A0_1:Option Addr) (c0_1:Nat) (l0_1:List (S68)) (r1:Int) (r2:Int) (w:World) (hr0_0:Kd.C k74 w A0_0 l0_0.length l0_0) (hc0_0:l0_0.length ≤ c0_0) (hr0_1:Kd.C k68 w A0_1 l0_1.length l0_1) (hc0_1:l0_1.length ≤ c0_1) (h:foretellref_StateCount.f k l0_0 l0_1 = some (r1,r2)) :
  Calls Tryd.prog 20 #[.agg #[.slice A0_0 l0_0.length c0_0,.slice A0_1 l0_1.length c0_1]] w fun e w'=>e = .returned (.tuple #[.int .i64 r1,.int .i64 r2])∧Below w.heap.size w w':=by
 have hu25:=Tryd.underlying25
 have HR0_0:=zA hr0_0
 have HC0_0:=zA hc0_0
 clear hr0_0 hc0_0
 have HR0_1:=zA hr0_1
 have HC0_1:=zA hc0_1
 clear hr0_1 hc0_1
 have HB:=zA (Below.refl w.heap.size w)
 have H:((foretellref_ModelFault.f k l0_0 l0_1).bind fun t287=>(if t287 = 0 then ((foretellref_behindVar.f k l0_0 l0_1 (-1)).bind fun t288=>(some (t288,0))) else (some (0,t287)))) = some (r1,r2):=h
 clear h
 replace H:=zb.mp H
 obtain ⟨t287,A20,H⟩:=H
 replace H:(if t287 = 0 then ((foretellref_behindVar.f k l0_0 l0_1 (-1)).bind fun t288=>(some (t288,0))) else (some (0,t287))) = some (r1,r2):=H
 have A2:=zA A20
 clear A20
 by_cases c3:t287 = 0
 ·rw [if_pos c3] at H
  have c3b0:(t287 == 0) = true:=beq_iff_eq.mpr c3
  have c3b1:(t287 != 0) = false:=bne_eq_false_iff_eq.mpr c3
  clear c3
  replace H:=zb.mp H
  obtain ⟨t288,A40,H⟩:=H
  replace H:(some (t288,0)) = some (r1,r2):=H
  have A4:=zA A40
  clear A40
  simp only [Option.some.injEq,Prod.mk.injEq] at H
  obtain ⟨rfl,rfl⟩:=H
  go_enter Tryd.func20,Tryd.ntmps20
  go_wp2_with (first|((with_reducible refine zV (N:=1) rfl ?_);refine zW ?hg (N:=1) ?hd (cs:=#[.slice A0_0 l0_0.length c0_0,.slice A0_1 l0_1.length c0_1]) (t:=25) ?hr ?_;(case hd=>rfl);(case hg=>rfl);(case hr=>first|(go_simp;done)|(go_simp;rfl));intro gb286 hg w5 hbox hb;have n0_:=zA (zH (by repeat (first|(with_reducible first|exact HB.out|apply zD|apply zC|apply zE)|exact HB.out)) hb);have n1_:=zA (hbox);have n2_:=zA ((by rw [hg];exact (zG (by repeat (first|(with_reducible first|exact HB.out|apply zD|apply zC|apply zE)|exact HB.out))):w.heap.size ≤ gb286));have n3_:=zA ((by rw [hg];exact (zG (by repeat (first|(with_reducible first|exact HB.out|apply zD|apply zC|apply zE)|exact HB.out))):w.heap.size ≤ gb286));clear HB;have HB:=n0_;have BK286:=n1_;have GW286:=n2_;have GE286:=n3_;clear n0_ n1_ n2_ n3_;clear hb hbox hg;have hcz6_0:w5.cell? ⟨gb286,0,none⟩ = some (.slice A0_0 l0_0.length c0_0):=(zI BK286.out 0).trans rfl;have hcz6_1:w5.cell? ⟨gb286,1,none⟩ = some (.slice A0_1 l0_1.length c0_1):=(zI BK286.out 1).trans rfl;have hfz6_0:=zJ BK286.out 0;have hfz6_1:=zJ BK286.out 1)|((with_reducible refine zU (f:=17) rfl ?_);refine goesL_ (some 6) rfl rfl Tryd.func17 (by kernel_rfl) rfl #[.agg #[.slice A0_0 l0_0.length c0_0,.slice A0_1 l0_1.length c0_1]] rfl (by (try simp only [zx,zy,zz]);first|done|rfl|(simp only [zd,zt];rfl)) ?_;(with_reducible refine (foretellref_ModelFault.calls k _ _ l0_0 _ _ l0_1 t287 _ ?side1 ?side2 ?side3 ?side4 A2.out).mono ?_);(case side1=>repeat (first|exact (zT HR0_0.out HB.out)|(with_reducible refine Kd.C_alloc ?_ _)|(with_reducible refine Kd.C_drewN ?_ _)|(with_reducible refine Kd.C_drew ?_)));(case side2=>exact HC0_0.out);(case side3=>repeat (first|exact (zT HR0_1.out HB.out)|(with_reducible refine Kd.C_alloc ?_ _)|(with_reducible refine Kd.C_drewN ?_ _)|(with_reducible refine Kd.C_drew ?_)));(case side4=>exact HC0_1.out);rintro e w7 ⟨rfl,hb⟩;refine ⟨_,rfl,?_⟩;have n0_:=zA (zN (g:=gb286) (o:=.cells #[.slice A0_0 l0_0.length c0_0,.slice A0_1 l0_1.length c0_1] 25 (0,0)) (by (with_reducible repeat (first|refine zL ?_ _|refine zM ?_|refine zK ?_ _));exact BK286.out) hb);have n1_:=zA (zH (by repeat (first|(with_reducible first|exact HB.out|apply zD|apply zC|apply zE|refine zF ?_ GE286.out)|exact HB.out)) hb);clear BK286;clear HB;have BK286:=n0_;have HB:=n1_;clear n0_ n1_;(try clear hb);(try clear hb2);(try clear hk);(try clear hi);have hcz8_0:w7.cell? ⟨gb286,0,none⟩ = some (.slice A0_0 l0_0.length c0_0):=(zI BK286.out 0).trans rfl;have hcz8_1:w7.cell? ⟨gb286,1,none⟩ = some (.slice A0_1 l0_1.length c0_1):=(zI BK286.out 1).trans rfl;have hfz8_0:=zJ BK286.out 0;have hfz8_1:=zJ BK286.out 1)|((with_reducible refine zU (f:=53) rfl ?_);refine goesL_ (some 11) rfl rfl Tryd.func53 (by kernel_rfl) rfl #[.agg #[.slice A0_0 l0_0.length c0_0,.slice A0_1 l0_1.length c0_1],.int .i64 (-1)] rfl (by (try simp only [zx,zy,zz]);first|done|rfl|(simp only [zd,zt];rfl)) ?_;(with_reducible refine (foretellref_behindVar.calls k _ _ l0_0 _ _ l0_1 (-1) t288 _ ?side1 ?side2 ?side3 ?side4 A4.out).mono ?_);(case side1=>repeat (first|exact (zT HR0_0.out HB.out)|(with_reducible refine Kd.C_alloc ?_ _)|(with_reducible refine Kd.C_drewN ?_ _)|(with_reducible refine Kd.C_drew ?_)));(case side2=>exact HC0_0.out);(case side3=>repeat (first|exact (zT HR0_1.out HB.out)|(with_reducible refine Kd.C_alloc ?_ _)|(with_reducible refine Kd.C_drewN ?_ _)|(with_reducible refine Kd.C_drew ?_)));(case side4=>exact HC0_1.out);rintro e w9 ⟨rfl,hb⟩;refine ⟨_,rfl,?_⟩;have n0_:=zA (zN (g:=gb286) (o:=.cells #[.slice A0_0 l0_0.length c0_0,.slice A0_1 l0_1.length c0_1] 25 (0,0)) (by (with_reducible repeat (first|refine zL ?_ _|refine zM ?_|refine zK ?_ _));exact BK286.out) hb);have n1_:=zA (zH (by repeat (first|(with_reducible first|exact HB.out|apply zD|apply zC|apply zE|refine zF ?_ GE286.out)|exact HB.out)) hb);clear BK286;clear HB;have BK286:=n0_;have HB:=n1_;clear n0_ n1_;(try clear hb);(try clear hb2);(try clear hk);(try clear hi)))
  go_ret2
  exact ⟨by first|rfl|(simp [errW_none,errW_some] <;> rfl)|(simp [*,errW_none,errW_some] <;> rfl),by repeat (first|(with_reducible first|exact HB.out|apply zD|apply zC|apply zE|refine zF ?_ GE286.out)|exact HB.out)⟩
 ·rw [if_neg c3] at H
  have c3b0:(t287 == 0) = false:=beq_eq_false_iff_ne.mpr c3
  have c3b1:(t287 != 0) = true:=bne_iff_ne.mpr c3
  simp only [Option.some.injEq,Prod.mk.injEq] at H
  obtain ⟨rfl,rfl⟩:=H
  go_enter Tryd.func20,Tryd.ntmps20
  go_wp2_with (first|((with_reducible refine zV (N:=1) rfl ?_);refine zW ?hg (N:=1) ?hd (cs:=#[.slice A0_0 l0_0.length c0_0,.slice A0_1 l0_1.length c0_1]) (t:=25) ?hr ?_;(case hd=>rfl);(case hg=>rfl);(case hr=>first|(go_simp;done)|(go_simp;rfl));intro gb286 hg w10 hbox hb;have n0_:=zA (zH (by repeat (first|(with_reducible first|exact HB.out|apply zD|apply zC|apply zE)|exact HB.out)) hb);have n1_:=zA (hbox);have n2_:=zA ((by rw [hg];exact (zG (by repeat (first|(with_reducible first|exact HB.out|apply zD|apply zC|apply zE)|exact HB.out))):w.heap.size ≤ gb286));have n3_:=zA ((by rw [hg];exact (zG (by repeat (first|(with_reducible first|exact HB.out|apply zD|apply zC|apply zE)|exact HB.out))):w.heap.size ≤ gb286));clear HB;have HB:=n0_;have BK286:=n1_;have GW286:=n2_;have GE286:=n3_;clear n0_ n1_ n2_ n3_;clear hb hbox hg;have hcz11_0:w10.cell? ⟨gb286,0,none⟩ = some (.slice A0_0 l0_0.length c0_0):=(zI BK286.out 0).trans rfl;have hcz11_1:w10.cell? ⟨gb286,1,none⟩ = some (.slice A0_1 l0_1.length c0_1):=(zI BK286.out 1).trans rfl;have hfz11_0:=zJ BK286.out 0;have hfz11_1:=zJ BK286.out 1)|((with_reducible refine zU (f:=17) rfl ?_);refine goesL_ (some 6) rfl rfl Tryd.func17 (by kernel_rfl) rfl #[.agg #[.slice A0_0 l0_0.length c0_0,.slice A0_1 l0_1.length c0_1]] rfl (by (try simp only [zx,zy,zz]);first|done|rfl|(simp only [zd,zt];rfl)) ?_;(with_reducible refine (foretellref_ModelFault.calls k _ _ l0_0 _ _ l0_1 t287 _ ?side1 ?side2 ?side3 ?side4 A2.out).mono ?_);(case side1=>repeat (first|exact (zT HR0_0.out HB.out)|(with_reducible refine Kd.C_alloc ?_ _)|(with_reducible refine Kd.C_drewN ?_ _)|(with_reducible refine Kd.C_drew ?_)));(case side2=>exact HC0_0.out);(case side3=>repeat (first|exact (zT HR0_1.out HB.out)|(with_reducible refine Kd.C_alloc ?_ _)|(with_reducible refine Kd.C_drewN ?_ _)|(with_reducible refine Kd.C_drew ?_)));(case side4=>exact HC0_1.out);rintro e w12 ⟨rfl,hb⟩;refine ⟨_,rfl,?_⟩;have n0_:=zA (zN (g:=gb286) (o:=.cells #[.slice A0_0 l0_0.length c0_0,.slice A0_1 l0_1.length c0_1] 25 (0,0)) (by (with_reducible repeat (first|refine zL ?_ _|refine zM ?_|refine zK ?_ _));exact BK286.out) hb);have n1_:=zA (zH (by repeat (first|(with_reducible first|exact HB.out|apply zD|apply zC|apply zE|refine zF ?_ GE286.out)|exact HB.out)) hb);clear BK286;clear HB;have BK286:=n0_;have HB:=n1_;clear n0_ n1_;(try clear hb);(try clear hb2);(try clear hk);(try clear hi)))
  go_ret2
  exact ⟨by first|rfl|(simp [errW_none,errW_some] <;> rfl)|(simp [*,errW_none,errW_some] <;> rfl),by repeat (first|(with_reducible first|exact HB.out|apply zD|apply zC|apply zE|refine zF ?_ GE286.out)|exact HB.out)⟩
def foretellref_ValuesOf.l0:Nat → Int → List Int → Int → List (S74) → List (S68) → Option (List Int × Int)
 | 0,_,_,_,_,_=>none
 | k + 1,x1,x8,x9,x290000,x290001=>if x9 < (x290000.length:Int) then ((foretellref_behindVar.f k x290000 x290001 x9).bind fun t293=>(if 0 ≤ x9 then (if t293 = 0 then (none) else (if x8.length < 17592186044416 then (foretellref_ValuesOf.l0 k (Int.tmod x1 t293) (x8 ++ [wrap64 (((rd_T74 x290000 x9).f1) + (wrap64 (Int.tdiv x1 t293)))]) (wrap64 (x9 + 1)) x290000 x290001) else (none))) else (none))) else (some (x8,0))
def foretellref_ValuesOf.f (k:Nat) (l0_0:List (S74)) (l0_1:List (S68)) (a1:Int):Option (List Int × Int):=(foretellref_StateCount.f k l0_0 l0_1).bind fun bt290=>(if bt290.2 = 0 then ((foretellref_In.f a1 0 (wrap64 (bt290.1 - 1))).bind fun t292=>(if t292 = true then (foretellref_ValuesOf.l0 k a1 ([]:List Int) 0 l0_0 l0_1) else (some (([]:List Int),9)))) else (some (([]:List Int),bt290.2)))
theorem foretellref_ValuesOf.mono_l:∀ k,(∀ y0 y1 y2 y3 y4,LeO (foretellref_ValuesOf.l0 k y0 y1 y2 y3 y4) (foretellref_ValuesOf.l0 (k + 1) y0 y1 y2 y3 y4))
 | 0=>fun _ _ _ _ _ r h=>by simp [foretellref_ValuesOf.l0] at h
 | k + 1=>by
  have ih0:=foretellref_ValuesOf.mono_l k
  ·intro y0 y1 y2 y3 y4
   unfold foretellref_ValuesOf.l0
   repeat' first
   | (with_reducible exact ih0 _ _ _ _ _)
   | (with_reducible exact foretellref_StateCount.mono _ _ _)
   | (with_reducible exact foretellref_behindVar.mono _ _ _ _)
   | (with_reducible exact LeO.refl _)
   | (with_reducible exact LeO.none _)
   | (with_reducible refine LeO.ite ?_ ?_)
   | (with_reducible refine LeO.bind ?_ (fun _=>?_))
   | exact ih0 _ _ _ _ _
   | exact foretellref_StateCount.mono _ _ _
   | exact foretellref_behindVar.mono _ _ _ _
   | exact LeO.none _
   | refine LeO.ite ?_ ?_
   | refine LeO.bind ?_ (fun _=>?_)
theorem foretellref_ValuesOf.mono:∀ a0 a1 a2 k,LeO (foretellref_ValuesOf.f k a0 a1 a2) (foretellref_ValuesOf.f (k + 1) a0 a1 a2):=by
 intro a0 a1 a2 k
 have ih0:=foretellref_ValuesOf.mono_l k
 unfold foretellref_ValuesOf.f
 repeat' first
   | (with_reducible exact ih0 _ _ _ _ _)
   | (with_reducible exact foretellref_StateCount.mono _ _ _)
   | (with_reducible exact foretellref_behindVar.mono _ _ _ _)
   | (with_reducible exact LeO.refl _)
   | (with_reducible exact LeO.none _)
   | (with_reducible refine LeO.ite ?_ ?_)
   | (with_reducible refine LeO.bind ?_ (fun _=>?_))
   | exact ih0 _ _ _ _ _
   | exact foretellref_StateCount.mono _ _ _
   | exact foretellref_behindVar.mono _ _ _ _
   | exact LeO.none _
   | refine LeO.ite ?_ ?_
   | refine LeO.bind ?_ (fun _=>?_)
def foretellref_ValuesOf.T11:Bool × List (List Nat × List Nat):=(true,[([],[]),([],[]),([1],[1]),([],[]),([2,3],[2,3]),([4],[4]),([5],[5]),([],[]),([],[]),([7,8],[7,8]),([6,9],[6,9]),([10],[10]),([0,11],[0,11]),([12,12,0,1,2,3,4,5,6,7,8,9,10,11,12],[0,12])])
def foretellref_ValuesOf.B11:List Nat:=[0,0,2,0,14,30,62,0,0,384,1022,2046,4095,8191]
theorem foretellref_ValuesOf.tab11:rtab .any (opsOf Tryd.f31 11) = foretellref_ValuesOf.T11:=by kernel_rfl
theorem foretellref_ValuesOf.bits11:waitsOk foretellref_ValuesOf.T11.2 foretellref_ValuesOf.B11 = true:=by kernel_rfl
set_option maxHeartbeats 8000000 in
set_option maxRecDepth 100000 in
theorem foretellref_ValuesOf.calls (k:Nat) (A0_0:Option Addr) (c0_0:Nat) (l0_0:List (S74)) (A0_1:Option Addr) (c0_1:Nat) (l0_1:List (S68)) (a1:Int) (r1:List Int) (r2:Int) (w:World) (hr0_0:Kd.C k74 w A0_0 l0_0.length l0_0) (hc0_0:l0_0.length ≤ c0_0) (hr0_1:Kd.C k68 w A0_1 l0_1.length l0_1) (hc0_1:l0_1.length ≤ c0_1) (h:foretellref_ValuesOf.f k l0_0 l0_1 a1 = some (r1,r2)) :
  Calls Tryd.prog 31 #[.agg #[.slice A0_0 l0_0.length c0_0,.slice A0_1 l0_1.length c0_1],.int .i64 a1] w fun e w'=>∃ v0_:Value,e = .returned (.tuple #[v0_,.int .i64 r2])∧Kd.R (Kd.int .i64) 3 w' w.heap.size (fun _=>True) v0_ r1∧Below w.heap.size w w':=by
 have hu25:=Tryd.underlying25
 have HR0_0:=zA hr0_0
 have HC0_0:=zA hc0_0
 clear hr0_0 hc0_0
 have HR0_1:=zA hr0_1
 have HC0_1:=zA hc0_1
 clear hr0_1 hc0_1
 have HB:=zA (Below.refl w.heap.size w)
 have H:((foretellref_StateCount.f k l0_0 l0_1).bind fun bt290=>(if bt290.2 = 0 then ((foretellref_In.f a1 0 (wrap64 (bt290.1 - 1))).bind fun t292=>(if t292 = true then (foretellref_ValuesOf.l0 k a1 ([]:List Int) 0 l0_0 l0_1) else (some (([]:List Int),9)))) else (some (([]:List Int),bt290.2)))) = some (r1,r2):=h
 clear h
 replace H:=zb.mp H
 obtain ⟨⟨t290,t291⟩,A30,H⟩:=H
 replace H:(if t291 = 0 then ((foretellref_In.f a1 0 (wrap64 (t290 - 1))).bind fun t292=>(if t292 = true then (foretellref_ValuesOf.l0 k a1 ([]:List Int) 0 l0_0 l0_1) else (some (([]:List Int),9)))) else (some (([]:List Int),t291))) = some (r1,r2):=H
 have A3:=zA A30
 clear A30
 by_cases c4:t291 = 0
 ·rw [if_pos c4] at H
  have c4b0:(t291 == 0) = true:=beq_iff_eq.mpr c4
  have c4b1:(t291 != 0) = false:=bne_eq_false_iff_eq.mpr c4
  clear c4
  replace H:=zb.mp H
  obtain ⟨t292,A50,H⟩:=H
  replace H:(if t292 = true then (foretellref_ValuesOf.l0 k a1 ([]:List Int) 0 l0_0 l0_1) else (some (([]:List Int),9))) = some (r1,r2):=H
  have A5:=zA A50
  clear A50
  by_cases c6:t292 = true
  ·subst c6
   have H1:(foretellref_ValuesOf.l0 k a1 ([]:List Int) 0 l0_0 l0_1) = some (r1,r2):=by rw [if_pos rfl] at H;exact H
   clear H
   have H:=H1
   clear H1
   have H':=zA H
   clear H
   go_enter Tryd.func31,Tryd.ntmps31
   go_wp2_with (first|((with_reducible refine zV (N:=2) rfl ?_);refine zW ?hg (N:=2) ?hd (cs:=#[.slice A0_0 l0_0.length c0_0,.slice A0_1 l0_1.length c0_1]) (t:=25) ?hr ?_;(case hd=>rfl);(case hg=>rfl);(case hr=>first|(go_simp;done)|(go_simp;rfl));intro gb289 hg w7 hbox hb;have n0_:=zA (zH (by repeat (first|(with_reducible first|exact HB.out|apply zD|apply zC|apply zE)|exact HB.out)) hb);have n1_:=zA (hbox);have n2_:=zA ((by rw [hg];exact (zG (by repeat (first|(with_reducible first|exact HB.out|apply zD|apply zC|apply zE)|exact HB.out))):w.heap.size ≤ gb289));have n3_:=zA ((by rw [hg];exact (zG (by repeat (first|(with_reducible first|exact HB.out|apply zD|apply zC|apply zE)|exact HB.out))):w.heap.size ≤ gb289));clear HB;have HB:=n0_;have BK289:=n1_;have GW289:=n2_;have GE289:=n3_;clear n0_ n1_ n2_ n3_;clear hb hbox hg;have hcz8_0:w7.cell? ⟨gb289,0,none⟩ = some (.slice A0_0 l0_0.length c0_0):=(zI BK289.out 0).trans rfl;have hcz8_1:w7.cell? ⟨gb289,1,none⟩ = some (.slice A0_1 l0_1.length c0_1):=(zI BK289.out 1).trans rfl;have hfz8_0:=zJ BK289.out 0;have hfz8_1:=zJ BK289.out 1)|((with_reducible refine zU (f:=20) rfl ?_);refine goesL_ (some 13) rfl rfl Tryd.func20 (by kernel_rfl) rfl #[.agg #[.slice A0_0 l0_0.length c0_0,.slice A0_1 l0_1.length c0_1]] rfl (by (try simp only [zx,zy,zz]);first|done|rfl|(simp only [zd,zt];rfl)) ?_;(with_reducible refine (foretellref_StateCount.calls k _ _ l0_0 _ _ l0_1 t290 t291 _ ?side1 ?side2 ?side3 ?side4 A3.out).mono ?_);(case side1=>repeat (first|exact (zT HR0_0.out HB.out)|(with_reducible refine Kd.C_alloc ?_ _)|(with_reducible refine Kd.C_drewN ?_ _)|(with_reducible refine Kd.C_drew ?_)));(case side2=>exact HC0_0.out);(case side3=>repeat (first|exact (zT HR0_1.out HB.out)|(with_reducible refine Kd.C_alloc ?_ _)|(with_reducible refine Kd.C_drewN ?_ _)|(with_reducible refine Kd.C_drew ?_)));(case side4=>exact HC0_1.out);rintro e w9 ⟨rfl,hb⟩;refine ⟨_,rfl,?_⟩;have n0_:=zA (zN (g:=gb289) (o:=.cells #[.slice A0_0 l0_0.length c0_0,.slice A0_1 l0_1.length c0_1] 25 (0,0)) (by (with_reducible repeat (first|refine zL ?_ _|refine zM ?_|refine zK ?_ _));exact BK289.out) hb);have n1_:=zA (zH (by repeat (first|(with_reducible first|exact HB.out|apply zD|apply zC|apply zE|refine zF ?_ GE289.out)|exact HB.out)) hb);clear BK289;clear HB;have BK289:=n0_;have HB:=n1_;clear n0_ n1_;(try clear hb);(try clear hb2);(try clear hk);(try clear hi))|((with_reducible refine zU (f:=56) rfl ?_);refine goesL_ (some 22) rfl rfl Tryd.func56 (by kernel_rfl) rfl #[.int .i64 a1,.int .i64 0,.int .i64 (wrap64 (t290 - 1))] rfl (by (try simp only [zx,zy,zz]);first|done|rfl|(simp only [zd,zt];rfl)) ?_;(with_reducible refine (foretellref_In.calls a1 0 (wrap64 (t290 - 1)) true _ A5.out).mono ?_);rintro e w' ⟨rfl,⟨nd,rfl⟩⟩;refine ⟨_,rfl,?_⟩))
   go_loopg [1,8,9] k (fun kq v1 v8 v9 w'=>∃ (x1_1:Int) (x8_1:List Int) (x9_1:Int),v1 = .int .i64 x1_1∧v9 = .int .i64 x9_1∧Aside0 (foretellref_ValuesOf.l0 kq x1_1 x8_1 x9_1 l0_0 l0_1 = some (r1,r2))∧Aside0 (kq ≤ k)∧Aside0 (Kd.R (Kd.int .i64) 3 w' w.heap.size (fun _=>True) v8 x8_1)∧Aside0 (w'.heap[gb289]? = some (.cells #[(.slice A0_0 l0_0.length c0_0),(.slice A0_1 l0_1.length c0_1)] 25 (0,0)))∧Aside0 (Below w.heap.size w w'))
   case atStart=>exact ⟨(a1),(([]:List Int)),(0),(by first|rfl|(simp;done)|(simp [*];done)),(by first|rfl|(simp;done)|(simp [*];done)),H',⟨Nat.le_refl _⟩,⟨by first|exact Kd.R_nil _ _ _ _ _|exact Kd.N_nil _ _ _ _ _|exact Kd.V_nil _ _ _ _ _|exact Kd.Q_nil _ _ _ _ _|exact Kd.S_nil _ _ _ _ _⟩,⟨by (with_reducible repeat (first|refine zL ?_ _|refine zM ?_|refine zK ?_ _));exact BK289.out⟩,⟨by repeat (first|(with_reducible first|exact HB.out|apply zD|apply zC|apply zE|refine zF ?_ GE289.out)|exact HB.out)⟩⟩
   case round =>
    clear H'
    try clear c2
    try clear p2
    try clear c3
    try clear c4
    try clear c4b0
    try clear c4b1
    try clear c5
    try clear c6
    try clear p6
    try clear hcz8_0
    try clear hcz8_1
    try clear hfz8_0
    try clear hfz8_1
    obtain ⟨x1_1,x8_1,x9_1,rfl,rfl,HA,HK1,HO_8,BK289,HB⟩:=hrel
    cases gk with
    | zero=>exact absurd HA.out (by simp [foretellref_ValuesOf.l0])
    | succ k1 =>
     have H:=HA.out
     clear HA
     simp only [foretellref_ValuesOf.l0] at H
     by_cases c10:x9_1 < (l0_0.length:Int)
     ·rw [if_pos c10] at H
      have c10b0:decide (x9_1 < (l0_0.length:Int)) = true:=zQ c10
      clear c10
      replace H:=zb.mp H
      obtain ⟨t293,A110,H⟩:=H
      replace H:(if 0 ≤ x9_1 then (if t293 = 0 then (none) else (if x8_1.length < 17592186044416 then (foretellref_ValuesOf.l0 k1 (Int.tmod x1_1 t293) (x8_1 ++ [wrap64 (((rd_T74 l0_0 x9_1).f1) + (wrap64 (Int.tdiv x1_1 t293)))]) (wrap64 (x9_1 + 1)) l0_0 l0_1) else (none))) else (none)) = some (r1,r2):=H
      have A11:=zA A110
      clear A110
      by_cases c12:0 ≤ x9_1
      ·rw [if_pos c12] at H
       have c12b0:decide (0 ≤ x9_1) = true:=zQ c12
       clear c12
       by_cases c13:t293 = 0
       ·rw [if_pos c13] at H
        exact absurd H (by simp)
       ·rw [if_neg c13] at H
        have c13b0:(t293 == 0) = false:=beq_eq_false_iff_ne.mpr c13
        have c13b1:(t293 != 0) = true:=bne_iff_ne.mpr c13
        by_cases c14:x8_1.length < 17592186044416
        ·rw [if_pos c14] at H
         have LMc14:=zA c14
         clear c14
         obtain ⟨y295,hy295⟩:∃ y_:List Int,y_ = (x8_1 ++ [wrap64 (((rd_T74 l0_0 x9_1).f1) + (wrap64 (Int.tdiv x1_1 t293)))]):=⟨_,rfl⟩
         replace H:(foretellref_ValuesOf.l0 k1 (Int.tmod x1_1 t293) y295 (wrap64 (x9_1 + 1)) l0_0 l0_1) = some (r1,r2):=by first|(rw [hy295];with_reducible exact H)|(have H2_:=(Option.bind_some _ _).symm.trans H;rw [hy295];with_reducible exact H2_)|(have H2_:=(Option.bind_some _ _).symm.trans H;with_reducible exact H2_)|with_reducible exact H|(rw [hy295];exact H)|exact H
         have Ny295:=zA hy295
         clear hy295
         have H':=zA H
         clear H
         have hcz15_0:wr.cell? ⟨gb289,0,none⟩ = some (.slice A0_0 l0_0.length c0_0):=(zI BK289.out 0).trans rfl
         have hcz15_1:wr.cell? ⟨gb289,1,none⟩ = some (.slice A0_1 l0_1.length c0_1):=(zI BK289.out 1).trans rfl
         have hfz15_0:=zJ BK289.out 0
         have hfz15_1:=zJ BK289.out 1
         try go_wp2_with (first|((with_reducible refine zU (f:=53) rfl ?_);refine goesL_ (some 33) rfl rfl Tryd.func53 (by kernel_rfl) rfl #[.agg #[.slice A0_0 l0_0.length c0_0,.slice A0_1 l0_1.length c0_1],.int .i64 x9_1] rfl (by (try simp only [zx,zy,zz]);first|done|rfl|(simp only [zd,zt];rfl)) ?_;(with_reducible refine (foretellref_behindVar.calls k1 _ _ l0_0 _ _ l0_1 x9_1 t293 _ ?side1 ?side2 ?side3 ?side4 A11.out).mono ?_);(case side1=>repeat (first|exact (zT HR0_0.out HB.out)|(with_reducible refine Kd.C_alloc ?_ _)|(with_reducible refine Kd.C_drewN ?_ _)|(with_reducible refine Kd.C_drew ?_)));(case side2=>exact HC0_0.out);(case side3=>repeat (first|exact (zT HR0_1.out HB.out)|(with_reducible refine Kd.C_alloc ?_ _)|(with_reducible refine Kd.C_drewN ?_ _)|(with_reducible refine Kd.C_drew ?_)));(case side4=>exact HC0_1.out);rintro e w16 ⟨rfl,hb⟩;refine ⟨_,rfl,?_⟩;have n0_:=zA (Kd.R_below (by (with_reducible repeat (first|apply Kd.R_alloc|apply Kd.R_drewN|apply Kd.R_drew));exact HO_8.out) hb);have n1_:=zA (zN (g:=gb289) (o:=.cells #[.slice A0_0 l0_0.length c0_0,.slice A0_1 l0_1.length c0_1] 25 (0,0)) (by (with_reducible repeat (first|refine zL ?_ _|refine zM ?_|refine zK ?_ _));exact BK289.out) hb);have n2_:=zA (zH (by repeat (first|(with_reducible first|exact HB.out|apply zD|apply zC|apply zE|refine zF ?_ GE289.out)|exact HB.out)) hb);clear HO_8;clear BK289;clear HB;have HO_8:=n0_;have BK289:=n1_;have HB:=n2_;clear n0_ n1_ n2_;(try clear hb);(try clear hb2);(try clear hk);(try clear hi)))
         have n0_:=zA (Kd.R_drew HO_8.out)
         have n1_:=zA (zM BK289.out)
         have n2_:=zA (zE HB.out)
         clear HO_8
         clear BK289
         clear HB
         have HO_8:=n0_
         have BK289:=n1_
         have HB:=n2_
         clear n0_ n1_ n2_
         have p294:0 ≤ (x9_1:Int):=zP (by assumption)
         have q294:x9_1 < (l0_0.length:Int):=zP (by assumption)
         obtain ⟨ad294,e294,hx294_0,hx294_1,hx294_2,hx294_3⟩:=at_T74 HR0_0.out x9_1 p294 q294
         have hw294_3:=hx294_3
         have hw294_2:=hx294_2
         have hw294_1:=hx294_1
         have hw294_0:=hx294_0
         cases e294
         replace hx294_0:=(HB.out.cell (zB w _ hx294_0)).trans hx294_0
         replace hx294_1:=(HB.out.cell (zB w _ hx294_1)).trans hx294_1
         replace hx294_2:=(HB.out.cell (zB w _ hx294_2)).trans hx294_2
         replace hx294_3:=(HB.out.cell (zB w _ hx294_3)).trans hx294_3
         replace p294:=eq_true p294
         replace q294:=eq_true q294
         refine start_ (n:=14) (S:=fun w'=>w'.cell? ⟨gb289,0,none⟩ = some (.slice (some ad294) l0_0.length c0_0)∧w'.cell? ⟨gb289,1,none⟩ = some (.slice A0_1 l0_1.length c0_1)∧w'.cell? (ad294.add ((x9_1).toNat * 4)) = some (.string ((rd_T74 l0_0 x9_1).f0))∧w'.cell? ⟨(ad294.add ((x9_1).toNat * 4)).block,(ad294.add ((x9_1).toNat * 4)).off + 1,none⟩ = some (.int .i64 ((rd_T74 l0_0 x9_1).f1))∧w'.cell? ⟨(ad294.add ((x9_1).toNat * 4)).block,(ad294.add ((x9_1).toNat * 4)).off + 2,none⟩ = some (.int .i64 ((rd_T74 l0_0 x9_1).f2))∧w'.cell? ⟨(ad294.add ((x9_1).toNat * 4)).block,(ad294.add ((x9_1).toNat * 4)).off + 3,none⟩ = some (.int .i64 ((rd_T74 l0_0 x9_1).f3))) (ds:=[]) #[false,false,false,false,false,false,false,false,false,false,false,false,false,false] (by kernel_rfl) rfl rfl ⟨(zI BK289.out 0).trans rfl,(zI BK289.out 1).trans rfl,((HB.out.cell (zB w _ hw294_0)).trans hw294_0),((HB.out.cell (zB w _ hw294_1)).trans hw294_1),((HB.out.cell (zB w _ hw294_2)).trans hw294_2),((HB.out.cell (zB w _ hw294_3)).trans hw294_3)⟩ (fun hHeld=>?_);refine with_tabW foretellref_ValuesOf.tab11 foretellref_ValuesOf.bits11 (fun HT_ HW_=>?_)
         generalize w16.drew = w17 at HO_8 BK289 HB hx294_0 hx294_1 hx294_2 hx294_3 hHeld ⊢
         refine pure_ (i:=0) (N:=some 34) (v:=?_) (a':=?_) #[true,false,false,false,false,false,false,false,false,false,false,false,false,false] rfl rfl (any_of HT_.out (by kernel_rfl)) (fun _ _ _ h=>h) (Or.inl ⟨by rfl,?_⟩) ?_ ?_
         rotate_left
         ·intro w'
          go_simp
          with_reducible rfl
         rotate_left
         ·simp only [Act.put,zX,zY,zZ,i64_w,i32_w]
          rfl
         refine pure_ (i:=1) (N:=some 35) (v:=?_) (a':=?_) #[true,true,false,false,false,false,false,false,false,false,false,false,false,false] rfl rfl (any_of HT_.out (by kernel_rfl)) (fun _ _ _ h=>h) (Or.inl ⟨by rfl,?_⟩) ?_ ?_
         rotate_left
         ·intro w'
          go_simp
          with_reducible rfl
         rotate_left
         ·simp only [Act.put,zX,zY,zZ,i64_w,i32_w]
          rfl
         refine pure_ (i:=3) (N:=some 37) (v:=?_) (a':=?_) #[true,true,false,true,false,false,false,false,false,false,false,false,false,false] rfl rfl (any_of HT_.out (by kernel_rfl)) (fun _ _ _ h=>h) (Or.inl ⟨by rfl,?_⟩) ?_ ?_
         rotate_left
         ·intro w'
          go_simp
          with_reducible rfl
         rotate_left
         ·simp only [Act.put,zX,zY,zZ,i64_w,i32_w]
          rfl
         refine pure_ (i:=7) (N:=some 41) (v:=?_) (a':=?_) #[true,true,false,true,false,false,false,true,false,false,false,false,false,false] rfl rfl (any_of HT_.out (by kernel_rfl)) (fun _ _ _ h=>h) (Or.inl ⟨by rfl,?_⟩) ?_ ?_
         rotate_left
         ·intro w'
          go_simp
          with_reducible rfl
         rotate_left
         ·simp only [Act.put,zX,zY,zZ,i64_w,i32_w]
          rfl
         refine pure_ (i:=8) (N:=some 42) (v:=?_) (a':=?_) #[true,true,false,true,false,false,false,true,true,false,false,false,false,false] rfl rfl (any_of HT_.out (by kernel_rfl)) (fun _ _ _ h=>h) (Or.inl ⟨by rfl,?_⟩) ?_ ?_
         rotate_left
         ·intro w'
          go_simp
          with_reducible rfl
         rotate_left
         ·simp only [Act.put,zX,zY,zZ,i64_w,i32_w]
          rfl
         refine pure_ (i:=9) (N:=some 43) (v:=?_) (a':=?_) #[true,true,false,true,false,false,false,true,true,true,false,false,false,false] rfl rfl (any_of HT_.out (by kernel_rfl)) (fun _ _ _ h=>h) (Or.inl ⟨by rfl,?_⟩) ?_ ?_
         rotate_left
         ·intro w'
          go_simp
          with_reducible rfl
         rotate_left
         ·simp only [Act.put,zX,zY,zZ,i64_w,i32_w]
          rfl
         refine take_ (i:=2) (N:=some 36) (v:=?_) (a':=?_) #[true,true,true,true,false,false,false,true,true,true,false,false,false,false] rfl rfl (take_ofW HT_.out HW_.out (by kernel_rfl)) (fun _ _ _ h=>h) (Or.inl ⟨by rfl,?_⟩) hHeld ?_ ?_
         rotate_left
         ·rintro w' ⟨s0,s1,s2,s3,s4,s5⟩
          go_simp
          with_reducible rfl
         rotate_left
         ·simp only [Act.put,zX,zY,zZ,i64_w,i32_w]
          rfl
         refine pure_ (i:=4) (N:=some 38) (v:=?_) (a':=?_) #[true,true,true,true,true,false,false,true,true,true,false,false,false,false] rfl rfl (any_of HT_.out (by kernel_rfl)) (fun _ _ _ h=>h) (Or.inl ⟨by rfl,?_⟩) ?_ ?_
         rotate_left
         ·intro w'
          go_simp
          with_reducible rfl
         rotate_left
         ·simp only [Act.put,zX,zY,zZ,i64_w,i32_w]
          rfl
         refine pure_ (i:=5) (N:=some 39) (v:=?_) (a':=?_) #[true,true,true,true,true,true,false,true,true,true,false,false,false,false] rfl rfl (any_of HT_.out (by kernel_rfl)) (fun _ _ _ h=>h) (Or.inl ⟨by rfl,?_⟩) ?_ ?_
         rotate_left
         ·intro w'
          go_simp
          with_reducible rfl
         rotate_left
         ·simp only [Act.put,zX,zY,zZ,i64_w,i32_w]
          rfl
         refine take_ (i:=6) (N:=some 40) (v:=?_) (a':=?_) #[true,true,true,true,true,true,true,true,true,true,false,false,false,false] rfl rfl (take_ofW HT_.out HW_.out (by kernel_rfl)) (fun _ _ _ h=>h) (Or.inl ⟨by rfl,?_⟩) hHeld ?_ ?_
         rotate_left
         ·rintro w' ⟨s0,s1,s2,s3,s4,s5⟩
          go_simp
          with_reducible rfl
         rotate_left
         ·simp only [Act.put,zX,zY,zZ,i64_w,i32_w]
          rfl
         refine pure_ (i:=10) (N:=some 44) (v:=?_) (a':=?_) #[true,true,true,true,true,true,true,true,true,true,true,false,false,false] rfl rfl (any_of HT_.out (by kernel_rfl)) (fun _ _ _ h=>h) (Or.inl ⟨by rfl,?_⟩) ?_ ?_
         rotate_left
         ·intro w'
          go_simp
          with_reducible rfl
         rotate_left
         ·simp only [Act.put,zX,zY,zZ,i64_w,i32_w]
          rfl
         refine one_ (i:=11) (N:=some 45) #[true,true,true,true,true,true,true,true,true,true,true,true,false,false] rfl rfl (one_of HT_.out (by kernel_rfl)) (by decide) (fun K hK=>?_)
         refine value_ (w1:=?_) (v:=?_) (by rfl) rfl ?_ ?_
         rotate_left 2
         ·go_simp
          constructor
          ·rfl
          ·rfl
         refine hK.out _ _ ⟨(zI (zK BK289.out _) 0).trans rfl,(zI (zK BK289.out _) 1).trans rfl,(World.cell?_alloc_lt _ _ _ (zB _ _ (((HB.out.cell (zB w _ hw294_0)).trans hw294_0)))).trans (((HB.out.cell (zB w _ hw294_0)).trans hw294_0)),(World.cell?_alloc_lt _ _ _ (zB _ _ (((HB.out.cell (zB w _ hw294_1)).trans hw294_1)))).trans (((HB.out.cell (zB w _ hw294_1)).trans hw294_1)),(World.cell?_alloc_lt _ _ _ (zB _ _ (((HB.out.cell (zB w _ hw294_2)).trans hw294_2)))).trans (((HB.out.cell (zB w _ hw294_2)).trans hw294_2)),(World.cell?_alloc_lt _ _ _ (zB _ _ (((HB.out.cell (zB w _ hw294_3)).trans hw294_3)))).trans (((HB.out.cell (zB w _ hw294_3)).trans hw294_3))⟩ (fun hHeld=>?_)
         clear hK K
         refine norm_ (a':=?_) ?_ ?_
         rotate_left
         ·show Act.put _ (some 45) _ = _
          simp only [Act.put,zX,zY,zZ,i64_w,i32_w]
          rfl
         refine one_ (i:=12) (N:=some 46) #[true,true,true,true,true,true,true,true,true,true,true,true,true,false] rfl rfl (one_of HT_.out (by kernel_rfl)) (by decide) (fun K hK=>?_)
         refine Kd.R_append_step (Kd.int .i64) (w0:=w) w.heap.size (by rfl) (.tmp 34) (.tmp 45) 37 3 (.int .i64 0) 8 rfl Tryd.underlying37 info3 rfl (by decide) (by omega) u8 x8_1 (wrap64 (((rd_T74 l0_0 x9_1).f1) + (wrap64 (Int.tdiv x1_1 t293)))) [.int .i64 (wrap64 (((rd_T74 l0_0 x9_1).f1) + (wrap64 (Int.tdiv x1_1 t293))))] (fun _=>True) (fun _=>False) rfl rfl ?aP (fun _ hk=>hk.elim) ?aF ?aO ?aB ?aS ?aL ?_
         (case aP=>exact rfl)
         (case aB=>exact (by repeat (first|(with_reducible first|exact HB.out|apply zD|apply zC|apply zE|refine zF ?_ GE289.out)|exact HB.out)))
         (case aF=>exact (fun _ _=>trivial))
         (case aO=>exact (by (with_reducible repeat (first|apply Kd.R_alloc|apply Kd.R_drewN|apply Kd.R_drew));exact HO_8.out))
         (case aS=>exact (zG (by repeat (first|(with_reducible first|exact HB.out|apply zD|apply zC|apply zE|refine zF ?_ GE289.out)|exact HB.out))))
         (case aL=>have:=LMc14.out;omega)
         intro v296 w18 ho hb hg hat
         rw [← Ny295.out] at ho
         have n0_:=zA (blk_grown (g:=gb289) (o:=.cells #[.slice (some ad294) l0_0.length c0_0,.slice A0_1 l0_1.length c0_1] 25 (0,0)) (by (with_reducible repeat (first|refine zL ?_ _|refine zM ?_|refine zK ?_ _));exact BK289.out) hg (Kd.R_ne HO_8.out BK289.out (by decide)))
         have n1_:=zA (hb)
         have n2_:=zA (ho)
         clear BK289
         clear HB
         clear HO_8
         have BK289:=n0_
         have HB:=n1_
         have HO297:=n2_
         clear n0_ n1_ n2_
         clear ho hb hg hat
         refine hK.out _ _ ⟨(zI BK289.out 0).trans rfl,(zI BK289.out 1).trans rfl,((HB.out.cell (zB w _ hw294_0)).trans hw294_0),((HB.out.cell (zB w _ hw294_1)).trans hw294_1),((HB.out.cell (zB w _ hw294_2)).trans hw294_2),((HB.out.cell (zB w _ hw294_3)).trans hw294_3)⟩ (fun hHeld=>?_)
         clear hK K
         refine norm_ (a':=?_) ?_ ?_
         rotate_left
         ·show Act.put _ (some 46) _ = _
          simp only [Act.put,zX,zY,zZ,i64_w,i32_w]
          rfl
         refine pure_ (i:=13) (N:=some 8) (v:=?_) (a':=?_) #[true,true,true,true,true,true,true,true,true,true,true,true,true,true] rfl rfl (any_of HT_.out (by kernel_rfl)) (fun _ _ _ h=>h) (Or.inl ⟨by rfl,?_⟩) ?_ ?_
         rotate_left
         ·intro w'
          go_simp
          with_reducible rfl
         rotate_left
         ·simp only [Act.put,zX,zY,zZ,i64_w,i32_w]
          rfl
         refine done_ (done_of HT_.out (by kernel_rfl)) ?_
         try go_wp2
         go_roundg k1
         case measure=>have:=HK1.out;omega
         case rel=>exact ⟨(Int.tmod x1_1 t293),(y295),(wrap64 (x9_1 + 1)),(by first|rfl|(simp;done)|(simp [*];done)),(by first|rfl|(simp;done)|(simp [*];done)),H',⟨by have:=HK1.out;omega⟩,⟨by (with_reducible repeat (first|apply Kd.R_alloc|apply Kd.R_drewN|apply Kd.R_drew));exact HO297.out⟩,⟨by (with_reducible repeat (first|refine zL ?_ _|refine zM ?_|refine zK ?_ _));exact BK289.out⟩,⟨by repeat (first|(with_reducible first|exact HB.out|apply zD|apply zC|apply zE|refine zF ?_ GE289.out)|exact HB.out)⟩⟩
        ·rw [if_neg c14] at H
         exact absurd H (by simp)
      ·rw [if_neg c12] at H
       exact absurd H (by simp)
     ·rw [if_neg c10] at H
      have c10b0:decide (x9_1 < (l0_0.length:Int)) = false:=zR c10
      clear c10
      simp only [Option.some.injEq,Prod.mk.injEq] at H
      obtain ⟨rfl,rfl⟩:=H
      have hcz19_0:wr.cell? ⟨gb289,0,none⟩ = some (.slice A0_0 l0_0.length c0_0):=(zI BK289.out 0).trans rfl
      have hcz19_1:wr.cell? ⟨gb289,1,none⟩ = some (.slice A0_1 l0_1.length c0_1):=(zI BK289.out 1).trans rfl
      have hfz19_0:=zJ BK289.out 0
      have hfz19_1:=zJ BK289.out 1
      go_wp2
      go_ret2
      exact ⟨_,by first|rfl|(simp [errW_none,errW_some] <;> rfl)|(simp [*,errW_none,errW_some] <;> rfl),by (with_reducible repeat (first|apply Kd.R_alloc|apply Kd.R_drewN|apply Kd.R_drew));exact HO_8.out,by repeat (first|(with_reducible first|exact HB.out|apply zD|apply zC|apply zE|refine zF ?_ GE289.out)|exact HB.out)⟩
  ·replace c6:=Bool.eq_false_iff.mpr c6
   subst c6
   have H1:(some (([]:List Int),9)) = some (r1,r2):=by rw [if_neg (show ¬ (false = true) by decide)] at H;exact H
   clear H
   have H:=H1
   clear H1
   simp only [Option.some.injEq,Prod.mk.injEq] at H
   obtain ⟨rfl,rfl⟩:=H
   go_enter Tryd.func31,Tryd.ntmps31
   go_wp2_with (first|((with_reducible refine zV (N:=2) rfl ?_);refine zW ?hg (N:=2) ?hd (cs:=#[.slice A0_0 l0_0.length c0_0,.slice A0_1 l0_1.length c0_1]) (t:=25) ?hr ?_;(case hd=>rfl);(case hg=>rfl);(case hr=>first|(go_simp;done)|(go_simp;rfl));intro gb289 hg w20 hbox hb;have n0_:=zA (zH (by repeat (first|(with_reducible first|exact HB.out|apply zD|apply zC|apply zE)|exact HB.out)) hb);have n1_:=zA (hbox);have n2_:=zA ((by rw [hg];exact (zG (by repeat (first|(with_reducible first|exact HB.out|apply zD|apply zC|apply zE)|exact HB.out))):w.heap.size ≤ gb289));have n3_:=zA ((by rw [hg];exact (zG (by repeat (first|(with_reducible first|exact HB.out|apply zD|apply zC|apply zE)|exact HB.out))):w.heap.size ≤ gb289));clear HB;have HB:=n0_;have BK289:=n1_;have GW289:=n2_;have GE289:=n3_;clear n0_ n1_ n2_ n3_;clear hb hbox hg;have hcz21_0:w20.cell? ⟨gb289,0,none⟩ = some (.slice A0_0 l0_0.length c0_0):=(zI BK289.out 0).trans rfl;have hcz21_1:w20.cell? ⟨gb289,1,none⟩ = some (.slice A0_1 l0_1.length c0_1):=(zI BK289.out 1).trans rfl;have hfz21_0:=zJ BK289.out 0;have hfz21_1:=zJ BK289.out 1)|((with_reducible refine zU (f:=20) rfl ?_);refine goesL_ (some 13) rfl rfl Tryd.func20 (by kernel_rfl) rfl #[.agg #[.slice A0_0 l0_0.length c0_0,.slice A0_1 l0_1.length c0_1]] rfl (by (try simp only [zx,zy,zz]);first|done|rfl|(simp only [zd,zt];rfl)) ?_;(with_reducible refine (foretellref_StateCount.calls k _ _ l0_0 _ _ l0_1 t290 t291 _ ?side1 ?side2 ?side3 ?side4 A3.out).mono ?_);(case side1=>repeat (first|exact (zT HR0_0.out HB.out)|(with_reducible refine Kd.C_alloc ?_ _)|(with_reducible refine Kd.C_drewN ?_ _)|(with_reducible refine Kd.C_drew ?_)));(case side2=>exact HC0_0.out);(case side3=>repeat (first|exact (zT HR0_1.out HB.out)|(with_reducible refine Kd.C_alloc ?_ _)|(with_reducible refine Kd.C_drewN ?_ _)|(with_reducible refine Kd.C_drew ?_)));(case side4=>exact HC0_1.out);rintro e w22 ⟨rfl,hb⟩;refine ⟨_,rfl,?_⟩;have n0_:=zA (zN (g:=gb289) (o:=.cells #[.slice A0_0 l0_0.length c0_0,.slice A0_1 l0_1.length c0_1] 25 (0,0)) (by (with_reducible repeat (first|refine zL ?_ _|refine zM ?_|refine zK ?_ _));exact BK289.out) hb);have n1_:=zA (zH (by repeat (first|(with_reducible first|exact HB.out|apply zD|apply zC|apply zE|refine zF ?_ GE289.out)|exact HB.out)) hb);clear BK289;clear HB;have BK289:=n0_;have HB:=n1_;clear n0_ n1_;(try clear hb);(try clear hb2);(try clear hk);(try clear hi))|((with_reducible refine zU (f:=56) rfl ?_);refine goesL_ (some 22) rfl rfl Tryd.func56 (by kernel_rfl) rfl #[.int .i64 a1,.int .i64 0,.int .i64 (wrap64 (t290 - 1))] rfl (by (try simp only [zx,zy,zz]);first|done|rfl|(simp only [zd,zt];rfl)) ?_;(with_reducible refine (foretellref_In.calls a1 0 (wrap64 (t290 - 1)) false _ A5.out).mono ?_);rintro e w' ⟨rfl,⟨nd,rfl⟩⟩;refine ⟨_,rfl,?_⟩))
   go_ret2
   exact ⟨_,by first|rfl|(simp [errW_none,errW_some] <;> rfl)|(simp [*,errW_none,errW_some] <;> rfl),by first|exact Kd.R_nil _ _ _ _ _|exact Kd.N_nil _ _ _ _ _|exact Kd.V_nil _ _ _ _ _|exact Kd.Q_nil _ _ _ _ _|exact Kd.S_nil _ _ _ _ _,by repeat (first|(with_reducible first|exact HB.out|apply zD|apply zC|apply zE|refine zF ?_ GE289.out)|exact HB.out)⟩
 ·rw [if_neg c4] at H
  have c4b0:(t291 == 0) = false:=beq_eq_false_iff_ne.mpr c4
  have c4b1:(t291 != 0) = true:=bne_iff_ne.mpr c4
  simp only [Option.some.injEq,Prod.mk.injEq] at H
  obtain ⟨rfl,rfl⟩:=H
  go_enter Tryd.func31,Tryd.ntmps31
  go_wp2_with (first|((with_reducible refine zV (N:=2) rfl ?_);refine zW ?hg (N:=2) ?hd (cs:=#[.slice A0_0 l0_0.length c0_0,.slice A0_1 l0_1.length c0_1]) (t:=25) ?hr ?_;(case hd=>rfl);(case hg=>rfl);(case hr=>first|(go_simp;done)|(go_simp;rfl));intro gb289 hg w23 hbox hb;have n0_:=zA (zH (by repeat (first|(with_reducible first|exact HB.out|apply zD|apply zC|apply zE)|exact HB.out)) hb);have n1_:=zA (hbox);have n2_:=zA ((by rw [hg];exact (zG (by repeat (first|(with_reducible first|exact HB.out|apply zD|apply zC|apply zE)|exact HB.out))):w.heap.size ≤ gb289));have n3_:=zA ((by rw [hg];exact (zG (by repeat (first|(with_reducible first|exact HB.out|apply zD|apply zC|apply zE)|exact HB.out))):w.heap.size ≤ gb289));clear HB;have HB:=n0_;have BK289:=n1_;have GW289:=n2_;have GE289:=n3_;clear n0_ n1_ n2_ n3_;clear hb hbox hg;have hcz24_0:w23.cell? ⟨gb289,0,none⟩ = some (.slice A0_0 l0_0.length c0_0):=(zI BK289.out 0).trans rfl;have hcz24_1:w23.cell? ⟨gb289,1,none⟩ = some (.slice A0_1 l0_1.length c0_1):=(zI BK289.out 1).trans rfl;have hfz24_0:=zJ BK289.out 0;have hfz24_1:=zJ BK289.out 1)|((with_reducible refine zU (f:=20) rfl ?_);refine goesL_ (some 13) rfl rfl Tryd.func20 (by kernel_rfl) rfl #[.agg #[.slice A0_0 l0_0.length c0_0,.slice A0_1 l0_1.length c0_1]] rfl (by (try simp only [zx,zy,zz]);first|done|rfl|(simp only [zd,zt];rfl)) ?_;(with_reducible refine (foretellref_StateCount.calls k _ _ l0_0 _ _ l0_1 t290 t291 _ ?side1 ?side2 ?side3 ?side4 A3.out).mono ?_);(case side1=>repeat (first|exact (zT HR0_0.out HB.out)|(with_reducible refine Kd.C_alloc ?_ _)|(with_reducible refine Kd.C_drewN ?_ _)|(with_reducible refine Kd.C_drew ?_)));(case side2=>exact HC0_0.out);(case side3=>repeat (first|exact (zT HR0_1.out HB.out)|(with_reducible refine Kd.C_alloc ?_ _)|(with_reducible refine Kd.C_drewN ?_ _)|(with_reducible refine Kd.C_drew ?_)));(case side4=>exact HC0_1.out);rintro e w25 ⟨rfl,hb⟩;refine ⟨_,rfl,?_⟩;have n0_:=zA (zN (g:=gb289) (o:=.cells #[.slice A0_0 l0_0.length c0_0,.slice A0_1 l0_1.length c0_1] 25 (0,0)) (by (with_reducible repeat (first|refine zL ?_ _|refine zM ?_|refine zK ?_ _));exact BK289.out) hb);have n1_:=zA (zH (by repeat (first|(with_reducible first|exact HB.out|apply zD|apply zC|apply zE|refine zF ?_ GE289.out)|exact HB.out)) hb);clear BK289;clear HB;have BK289:=n0_;have HB:=n1_;clear n0_ n1_;(try clear hb);(try clear hb2);(try clear hk);(try clear hi)))
  go_ret2
  exact ⟨_,by first|rfl|(simp [errW_none,errW_some] <;> rfl)|(simp [*,errW_none,errW_some] <;> rfl),by first|exact Kd.R_nil _ _ _ _ _|exact Kd.N_nil _ _ _ _ _|exact Kd.V_nil _ _ _ _ _|exact Kd.Q_nil _ _ _ _ _|exact Kd.S_nil _ _ _ _ _,by repeat (first|(with_reducible first|exact HB.out|apply zD|apply zC|apply zE|refine zF ?_ GE289.out)|exact HB.out)⟩
end Go.Proofs.YtkpddelnkjjflaaDoor.M
