-- WRITTEN by this session's own program (wip/pp.py) over the translation. Not trusted: Lean checks it.
import Derived.Test.YtkpddelnkjjflaaDoorMx0
namespace Go.Proofs.YtkpddelnkjjflaaDoor.M
open Go.Proofs.YtkpddelnkjjflaaDoor.Al
open Go.World renaming block_lt_of_cell? → zB
open Nat renaming lt_of_lt_of_le → zS
open Option renaming bind_eq_some_iff → zb
open List renaming setIfInBounds_toArray → zX, set_cons_zero → zY, set_cons_succ → zZ, map_toArray → zx, map_cons → zy, map_nil → zz, length_drop → zd, length_take → zt
open Go.Proofs.YtkpddelnkjjflaaDoorW.PrintWords renaming pw_below_drewN → zC, below_alloc → zD, below_drew1 → zE, below_set → zF, below_size → zG, below_step → zH, blk_cell → zI, blk_frozen → zJ, blk_alloc → zK, blk_drewN → zL, blk_drew → zM, blk_below → zN, blk_put → zO, Kd.C_below → zT, gate_callee → zU, gate_dst → zV, box_event → zW
open Go.RowKit Go.Proofs.YtkpddelnkjjflaaDoorW.PrintWords Go.Proofs.YtkpddelnkjjflaaDoorW.PrintLast Go.Proofs.YtkpddelnkjjflaaDoorW.PrintMore
attribute [local go_sem] max2_int min2_int max_two min_two max_three min_three max_four min_four   -- for this text's walks alone
set_option linter.unusedVariables false
set_option linter.unusedSimpArgs false

/-! ### foretellref_behindVar: function 53 -/
def foretellref_behindVar.l0:Nat → Int → Int → List (S74) → List (S68) → Option (Int)
 | 0,_,_,_,_=>none
 | k + 1,x5,x6,x271000,x271001=>if x6 < (x271000.length:Int) then (if 0 ≤ x6 then (foretellref_behindVar.l0 k (wrap64 (x5 * (wrap64 ((wrap64 (((rd_T74 x271000 x6).f2) - ((rd_T74 x271000 x6).f1))) + 1)))) (wrap64 (x6 + 1)) x271000 x271001) else (none)) else (some x5)
def foretellref_behindVar.f (k:Nat) (l0_0:List (S74)) (l0_1:List (S68)) (a1:Int):Option (Int):=foretellref_behindVar.l0 k 1 (wrap64 (a1 + 1)) l0_0 l0_1
theorem foretellref_behindVar.mono_l:∀ k,(∀ y0 y1 y2 y3,LeO (foretellref_behindVar.l0 k y0 y1 y2 y3) (foretellref_behindVar.l0 (k + 1) y0 y1 y2 y3))
 | 0=>fun _ _ _ _ r h=>by simp [foretellref_behindVar.l0] at h
 | k + 1=>by
  have ih0:=foretellref_behindVar.mono_l k
  ·intro y0 y1 y2 y3
   unfold foretellref_behindVar.l0
   repeat' first
   | (with_reducible exact ih0 _ _ _ _)
   | (with_reducible exact LeO.refl _)
   | (with_reducible exact LeO.none _)
   | (with_reducible refine LeO.ite ?_ ?_)
   | (with_reducible refine LeO.bind ?_ (fun _=>?_))
   | exact ih0 _ _ _ _
   | exact LeO.none _
   | refine LeO.ite ?_ ?_
   | refine LeO.bind ?_ (fun _=>?_)
theorem foretellref_behindVar.mono:∀ a0 a1 a2 k,LeO (foretellref_behindVar.f k a0 a1 a2) (foretellref_behindVar.f (k + 1) a0 a1 a2):=by
 intro a0 a1 a2 k
 have ih0:=foretellref_behindVar.mono_l k
 unfold foretellref_behindVar.f
 repeat' first
   | (with_reducible exact ih0 _ _ _ _)
   | (with_reducible exact LeO.refl _)
   | (with_reducible exact LeO.none _)
   | (with_reducible refine LeO.ite ?_ ?_)
   | (with_reducible refine LeO.bind ?_ (fun _=>?_))
   | exact ih0 _ _ _ _
   | exact LeO.none _
   | refine LeO.ite ?_ ?_
   | refine LeO.bind ?_ (fun _=>?_)
set_option maxHeartbeats 8000000 in
set_option maxRecDepth 100000 in
theorem foretellref_behindVar.calls (k:Nat) (A0_0:Option Addr) (c0_0:Nat) (l0_0:List (S74)) (A0_1:Option Addr) (c0_1:Nat) (l0_1:List (S68)) (a1:Int) (r:Int) (w:World) (hr0_0:Kd.C k74 w A0_0 l0_0.length l0_0) (hc0_0:l0_0.length ≤ c0_0) (hr0_1:Kd.C k68 w A0_1 l0_1.length l0_1) (hc0_1:l0_1.length ≤ c0_1) (h:foretellref_behindVar.f k l0_0 l0_1 a1 = some r) :
  Calls Tryd.prog 53 #[.agg #[.slice A0_0 l0_0.length c0_0,.slice A0_1 l0_1.length c0_1],.int .i64 a1] w fun e w'=>e = .returned (.int .i64 r)∧Below w.heap.size w w':=by
 have hu25:=Tryd.underlying25
 have HR0_0:=zA hr0_0
 have HC0_0:=zA hc0_0
 clear hr0_0 hc0_0
 have HR0_1:=zA hr0_1
 have HC0_1:=zA hc0_1
 clear hr0_1 hc0_1
 have HB:=zA (Below.refl w.heap.size w)
 have H:(foretellref_behindVar.l0 k 1 (wrap64 (a1 + 1)) l0_0 l0_1) = some r:=h
 clear h
 have H':=zA H
 clear H
 go_enter Tryd.func53,Tryd.ntmps53
 go_wp2_with (first|((with_reducible refine zV (N:=2) rfl ?_);refine zW ?hg (N:=2) ?hd (cs:=#[.slice A0_0 l0_0.length c0_0,.slice A0_1 l0_1.length c0_1]) (t:=25) ?hr ?_;(case hd=>rfl);(case hg=>rfl);(case hr=>first|(go_simp;done)|(go_simp;rfl));intro gb270 hg w3 hbox hb;have n0_:=zA (zH (by repeat (first|(with_reducible first|exact HB.out|apply zD|apply zC|apply zE)|exact HB.out)) hb);have n1_:=zA (hbox);have n2_:=zA ((by rw [hg];exact (zG (by repeat (first|(with_reducible first|exact HB.out|apply zD|apply zC|apply zE)|exact HB.out))):w.heap.size ≤ gb270));have n3_:=zA ((by rw [hg];exact (zG (by repeat (first|(with_reducible first|exact HB.out|apply zD|apply zC|apply zE)|exact HB.out))):w.heap.size ≤ gb270));clear HB;have HB:=n0_;have BK270:=n1_;have GW270:=n2_;have GE270:=n3_;clear n0_ n1_ n2_ n3_;clear hb hbox hg))
 repeat (go_quiet (first|((with_reducible refine zV (N:=2) rfl ?_);refine zW ?hg (N:=2) ?hd (cs:=#[.slice A0_0 l0_0.length c0_0,.slice A0_1 l0_1.length c0_1]) (t:=25) ?hr ?_;(case hd=>rfl);(case hg=>rfl);(case hr=>first|(go_simp;done)|(go_simp;rfl));intro gb270 hg w3 hbox hb;have n0_:=zA (zH (by repeat (first|(with_reducible first|exact HB.out|apply zD|apply zC|apply zE)|exact HB.out)) hb);have n1_:=zA (hbox);have n2_:=zA ((by rw [hg];exact (zG (by repeat (first|(with_reducible first|exact HB.out|apply zD|apply zC|apply zE)|exact HB.out))):w.heap.size ≤ gb270));have n3_:=zA ((by rw [hg];exact (zG (by repeat (first|(with_reducible first|exact HB.out|apply zD|apply zC|apply zE)|exact HB.out))):w.heap.size ≤ gb270));clear HB;have HB:=n0_;have BK270:=n1_;have GW270:=n2_;have GE270:=n3_;clear n0_ n1_ n2_ n3_;clear hb hbox hg));try go_wp2_with (first|((with_reducible refine zV (N:=2) rfl ?_);refine zW ?hg (N:=2) ?hd (cs:=#[.slice A0_0 l0_0.length c0_0,.slice A0_1 l0_1.length c0_1]) (t:=25) ?hr ?_;(case hd=>rfl);(case hg=>rfl);(case hr=>first|(go_simp;done)|(go_simp;rfl));intro gb270 hg w3 hbox hb;have n0_:=zA (zH (by repeat (first|(with_reducible first|exact HB.out|apply zD|apply zC|apply zE)|exact HB.out)) hb);have n1_:=zA (hbox);have n2_:=zA ((by rw [hg];exact (zG (by repeat (first|(with_reducible first|exact HB.out|apply zD|apply zC|apply zE)|exact HB.out))):w.heap.size ≤ gb270));have n3_:=zA ((by rw [hg];exact (zG (by repeat (first|(with_reducible first|exact HB.out|apply zD|apply zC|apply zE)|exact HB.out))):w.heap.size ≤ gb270));clear HB;have HB:=n0_;have BK270:=n1_;have GW270:=n2_;have GE270:=n3_;clear n0_ n1_ n2_ n3_;clear hb hbox hg)))
 go_loopg [5,6] k (fun kq v5 v6 w'=>∃ (x5_1:Int) (x6_1:Int),v5 = .int .i64 x5_1∧v6 = .int .i64 x6_1∧Aside0 (foretellref_behindVar.l0 kq x5_1 x6_1 l0_0 l0_1 = some r)∧Aside0 (kq ≤ k)∧Aside0 (w'.heap[gb270]? = some (.cells #[(.slice A0_0 l0_0.length c0_0),(.slice A0_1 l0_1.length c0_1)] 25 (0,0)))∧Aside0 (Below w.heap.size w w'))
 case atStart=>exact ⟨(1),(wrap64 (a1 + 1)),(by first|rfl|(simp;done)|(simp [*];done)),(by first|rfl|(simp;done)|(simp [*];done)),H',⟨Nat.le_refl _⟩,⟨by (with_reducible repeat (first|refine zL ?_ _|refine zM ?_|refine zK ?_ _));exact BK270.out⟩,⟨by repeat (first|(with_reducible first|exact HB.out|apply zD|apply zC|apply zE|refine zF ?_ GE270.out)|exact HB.out)⟩⟩
 case round =>
  clear H'
  try clear p2
  obtain ⟨x5_1,x6_1,rfl,rfl,HA,HK1,BK270,HB⟩:=hrel
  cases gk with
  | zero=>exact absurd HA.out (by simp [foretellref_behindVar.l0])
  | succ k1 =>
   have H:=HA.out
   clear HA
   simp only [foretellref_behindVar.l0] at H
   by_cases c4:x6_1 < (l0_0.length:Int)
   ·rw [if_pos c4] at H
    have c4b0:decide (x6_1 < (l0_0.length:Int)) = true:=zQ c4
    clear c4
    by_cases c5:0 ≤ x6_1
    ·rw [if_pos c5] at H
     have c5b0:decide (0 ≤ x6_1) = true:=zQ c5
     clear c5
     have H':=zA H
     clear H
     have hcz6_0:wr.cell? ⟨gb270,0,none⟩ = some (.slice A0_0 l0_0.length c0_0):=(zI BK270.out 0).trans rfl
     have hcz6_1:wr.cell? ⟨gb270,1,none⟩ = some (.slice A0_1 l0_1.length c0_1):=(zI BK270.out 1).trans rfl
     have hfz6_0:=zJ BK270.out 0
     have hfz6_1:=zJ BK270.out 1
     have p271:0 ≤ (x6_1:Int):=zP (by assumption)
     have q271:x6_1 < (l0_0.length:Int):=zP (by assumption)
     obtain ⟨ad271,e271,hx271_0,hx271_1,hx271_2,hx271_3⟩:=at_T74 HR0_0.out x6_1 p271 q271
     cases e271
     replace hx271_0:=(HB.out.cell (zB w _ hx271_0)).trans hx271_0
     replace hx271_1:=(HB.out.cell (zB w _ hx271_1)).trans hx271_1
     replace hx271_2:=(HB.out.cell (zB w _ hx271_2)).trans hx271_2
     replace hx271_3:=(HB.out.cell (zB w _ hx271_3)).trans hx271_3
     replace p271:=eq_true p271
     replace q271:=eq_true q271
     have p272:0 ≤ (x6_1:Int):=zP (by assumption)
     have q272:x6_1 < (l0_0.length:Int):=zP (by assumption)
     obtain ⟨ad272,e272,hx272_0,hx272_1,hx272_2,hx272_3⟩:=at_T74 HR0_0.out x6_1 p272 q272
     obtain rfl:ad271 = ad272:=(by injection e272)
     replace hx272_0:=(HB.out.cell (zB w _ hx272_0)).trans hx272_0
     replace hx272_1:=(HB.out.cell (zB w _ hx272_1)).trans hx272_1
     replace hx272_2:=(HB.out.cell (zB w _ hx272_2)).trans hx272_2
     replace hx272_3:=(HB.out.cell (zB w _ hx272_3)).trans hx272_3
     replace p272:=eq_true p272
     replace q272:=eq_true q272
     go_wp2
     repeat (go_quiet (fail);try go_wp2)
     go_roundg k1
     case measure=>have:=HK1.out;omega
     case rel=>exact ⟨(wrap64 (x5_1 * (wrap64 ((wrap64 (((rd_T74 l0_0 x6_1).f2) - ((rd_T74 l0_0 x6_1).f1))) + 1)))),(wrap64 (x6_1 + 1)),(by first|rfl|(simp;done)|(simp [*];done)),(by first|rfl|(simp;done)|(simp [*];done)),H',⟨by have:=HK1.out;omega⟩,⟨by (with_reducible repeat (first|refine zL ?_ _|refine zM ?_|refine zK ?_ _));exact BK270.out⟩,⟨by repeat (first|(with_reducible first|exact HB.out|apply zD|apply zC|apply zE|refine zF ?_ GE270.out)|exact HB.out)⟩⟩
    ·rw [if_neg c5] at H
     exact absurd H (by simp)
   ·rw [if_neg c4] at H
    have c4b0:decide (x6_1 < (l0_0.length:Int)) = false:=zR c4
    clear c4
    obtain rfl:=Option.some.inj H
    have hcz7_0:wr.cell? ⟨gb270,0,none⟩ = some (.slice A0_0 l0_0.length c0_0):=(zI BK270.out 0).trans rfl
    have hcz7_1:wr.cell? ⟨gb270,1,none⟩ = some (.slice A0_1 l0_1.length c0_1):=(zI BK270.out 1).trans rfl
    have hfz7_0:=zJ BK270.out 0
    have hfz7_1:=zJ BK270.out 1
    go_wp2
    repeat (go_quiet (fail);try go_wp2)
    go_ret
    exact ⟨by first|rfl|(simp [errW_none,errW_some] <;> rfl)|(simp [*,errW_none,errW_some] <;> rfl),by repeat (first|(with_reducible first|exact HB.out|apply zD|apply zC|apply zE|refine zF ?_ GE270.out)|exact HB.out)⟩
 
end Go.Proofs.YtkpddelnkjjflaaDoor.M
