-- Cut by a program of this session (wip/prune.py) from a longer text: declarations that the law does not need are left out.
import Derived.Test.YtkpddelnkjjflaaDoorKStepLettersMx0
namespace Go.Proofs.YtkpddelnkjjflaaDoor.M
open Go.Proofs.YtkpddelnkjjflaaDoor.Al
open Go.World renaming block_lt_of_cell? → zB
open Option renaming bind_eq_some_iff → zb
open List renaming setIfInBounds_toArray → zX, set_cons_zero → zY, set_cons_succ → zZ, map_toArray → zx, map_cons → zy, map_nil → zz, length_drop → zd, length_take → zt
open Go.Proofs.YtkpddelnkjjflaaDoorW.PrintWords renaming pw_below_drewN → zC, below_alloc → zD, below_drew1 → zE, below_set → zF, below_size → zG, below_step → zH, blk_cell → zI, blk_frozen → zJ, blk_alloc → zK, blk_drewN → zL, blk_drew → zM, blk_below → zN, blk_put → zO, Kd.C_below → zT, gate_callee → zU, gate_dst → zV, box_event → zW
open Go.RowKit Go.Proofs.YtkpddelnkjjflaaDoorW.PrintWords Go.Proofs.YtkpddelnkjjflaaDoorW.PrintLast Go.Proofs.YtkpddelnkjjflaaDoorW.PrintMore
attribute [local go_sem] max2_int min2_int max_two min_two max_three min_three max_four min_four
set_option linter.unusedVariables false
set_option linter.unusedSimpArgs false
def foretelllaw_ops.f (l0:List (S94)):Option ((List (S94))):=if ([]:List (S94)).length + l0.length < 8796093022208 then (some (([]:List (S94)) ++ l0)) else (none)
set_option maxHeartbeats 8000000 in
set_option maxRecDepth 100000 in
theorem foretelllaw_ops.calls (A0:Option Addr) (c0:Nat) (l0:List (S94)) (r:List (S94)) (w:World) (hr0:Kd.C k94 w A0 l0.length l0) (hc0:l0.length ≤ c0) (h:foretelllaw_ops.f l0 = some r) :
  Calls Tryd.prog 47 #[.slice A0 l0.length c0] w fun e w'=>∃ v0_:Value,e = .returned (v0_)∧Kd.R k94 94 w' w.heap.size (fun _=>True) v0_ r∧Below w.heap.size w w':=by
 have HR0:=zA hr0
 have HC0:=zA hc0
 clear hr0 hc0
 have HB:=zA (Below.refl w.heap.size w)
 have H:(if ([]:List (S94)).length + l0.length < 8796093022208 then (some (([]:List (S94)) ++ l0)) else (none)) = some r:=h
 clear h
 by_cases c2:([]:List (S94)).length + l0.length < 8796093022208
 ·rw [if_pos c2] at H
  have LMc2:=zA c2
  clear c2
  obtain ⟨y101,hy101⟩:∃ y_:List (S94),y_ = (([]:List (S94)) ++ l0):=⟨_,rfl⟩
  replace H:(some y101) = some r:=by first|(rw [hy101];with_reducible exact H)|(have H2_:=(Option.bind_some _ _).symm.trans H;rw [hy101];with_reducible exact H2_)|(have H2_:=(Option.bind_some _ _).symm.trans H;with_reducible exact H2_)|with_reducible exact H|(rw [hy101];exact H)|exact H
  have Ny101:=zA hy101
  clear hy101
  obtain rfl:=Option.some.inj H
  go_enter Tryd.func47,Tryd.ntmps47
  go_wp2_with (first|((with_reducible refine gate_builtin (b:=.append) (xs:=#[.const (.slice none 0 0),.tmp 3]) rfl ?_);at_builtin;refine Kd.R_append_rows k94 (w0:=w) w.heap.size rfl (.const (.slice none 0 0)) (.tmp 3) 45 94 (.agg #[(.int .i64 0),(.int .i64 0)]) 16 rfl Tryd.underlying45 info94 rfl (by decide) (by omega) (.slice none 0 0) ([]:List (S94)) l0 _ _ _ (fun _=>True) (fun _=>False) rfl rfl ?aO ?aR (fun _ _ h=>h) (fun _ h=>h.elim) ?aF ?aB ?aS ?aL ?_;(case aR=>repeat (first|exact HR0.out|(with_reducible refine Kd.C_alloc ?_ _)|(with_reducible refine Kd.C_drewN ?_ _)|(with_reducible refine Kd.C_drew ?_)));(case aB=>exact (by repeat (first|(with_reducible first|exact HB.out|apply zD|apply zC|apply zE)|exact HB.out)));(case aF=>exact (fun _ _=>trivial));(case aO=>exact ((Kd.R_nil _ _ _ _ (fun _=>True))));(case aS=>exact (zG (by repeat (first|(with_reducible first|exact HB.out|apply zD|apply zC|apply zE)|exact HB.out))));(case aL=>have:=LMc2.out;omega);intro v102 w3 ho hb hg hat;rw [← Ny101.out] at ho;have n0_:=zA (hb);have n1_:=zA (ho);clear HB;have HB:=n0_;have HO103:=n1_;clear n0_ n1_;clear ho hb hg hat))
  go_ret
  exact ⟨_,by first|rfl|(simp [errW_none,errW_some] <;> rfl)|(simp [*,errW_none,errW_some] <;> rfl),by (with_reducible repeat (first|apply Kd.R_alloc|apply Kd.R_drewN|apply Kd.R_drew));exact HO103.out,by repeat (first|(with_reducible first|exact HB.out|apply zD|apply zC|apply zE)|exact HB.out)⟩
 ·rw [if_neg c2] at H
  exact absurd H (by simp)
mutual
def foretelllaw_models.l0:Nat → Int → List (S74) → List (S68) → List (S74) → List (S68) → Option ((List (S74)) × (List (S68)))
 | 0,_,_,_,_,_=>none
 | k + 1,x4,x105000,x105001,x110000,x110001=>if x4 < (x105001.length:Int) then (if 0 ≤ x4 then ((foretelllaw_ops.f ((rd_T68 x105001 x4).f0)).bind fun t111=>(foretelllaw_models.l1 k x4 0 x105000 x105001 x110000 x110001 t111 ([]:List (S70)))) else (none)) else (some (x110000,x110001))
def foretelllaw_models.l1:Nat → Int → Int → List (S74) → List (S68) → List (S74) → List (S68) → List (S94) → List (S70) → Option ((List (S74)) × (List (S68)))
 | 0,_,_,_,_,_,_,_,_=>none
 | k + 1,x4,x6,x105000,x105001,x110000,x110001,x115000,x115001=>if 0 ≤ x4 then (if x4 < (x105001.length:Int) then (if x6 < (((rd_T68 x105001 x4).f1).length:Int) then (if 0 ≤ x6 then ((foretelllaw_ops.f ((rd_T70 ((rd_T68 x105001 x4).f1) x6).f1)).bind fun t119=>(if x115001.length < 4398046511104 then (foretelllaw_models.l1 k x4 (wrap64 (x6 + 1)) x105000 x105001 x110000 x110001 x115000 (x115001 ++ [(⟨(rd_T70 ((rd_T68 x105001 x4).f1) x6).f0,t119⟩:S70)])) else (none))) else (none)) else (if x110001.length < 2932031007402 then (foretelllaw_models.l0 k (wrap64 (x4 + 1)) x105000 x105001 x110000 (x110001 ++ [(⟨x115000,x115001⟩:S68)])) else (none))) else (none)) else (none)
end
def foretelllaw_models.f (k:Nat) (l0_0:List (S74)) (l0_1:List (S68)):Option ((List (S74)) × (List (S68))):=if ([]:List (S74)).length + l0_0.length < 3518437208883 then (foretelllaw_models.l0 k 0 l0_0 l0_1 (([]:List (S74)) ++ l0_0) ([]:List (S68))) else (none)
theorem foretelllaw_models.mono_l:∀ k,(∀ y0 y1 y2 y3 y4,LeO (foretelllaw_models.l0 k y0 y1 y2 y3 y4) (foretelllaw_models.l0 (k + 1) y0 y1 y2 y3 y4))∧(∀ y0 y1 y2 y3 y4 y5 y6 y7,LeO (foretelllaw_models.l1 k y0 y1 y2 y3 y4 y5 y6 y7) (foretelllaw_models.l1 (k + 1) y0 y1 y2 y3 y4 y5 y6 y7))
 | 0=>⟨fun _ _ _ _ _ r h=>by simp [foretelllaw_models.l0] at h,fun _ _ _ _ _ _ _ _ r h=>by simp [foretelllaw_models.l1] at h⟩
 | k + 1=>by
  obtain ⟨ih0,ih1⟩:=foretelllaw_models.mono_l k
  refine ⟨?_,?_⟩
  ·intro y0 y1 y2 y3 y4
   unfold foretelllaw_models.l0
   repeat' first
   | (with_reducible exact ih0 _ _ _ _ _)
   | (with_reducible exact ih1 _ _ _ _ _ _ _ _)
   | (with_reducible exact LeO.refl _)
   | (with_reducible exact LeO.none _)
   | (with_reducible refine LeO.ite ?_ ?_)
   | (with_reducible refine LeO.bind ?_ (fun _=>?_))
   | exact ih0 _ _ _ _ _
   | exact ih1 _ _ _ _ _ _ _ _
   | exact LeO.none _
   | refine LeO.ite ?_ ?_
   | refine LeO.bind ?_ (fun _=>?_)
  ·intro y0 y1 y2 y3 y4 y5 y6 y7
   unfold foretelllaw_models.l1
   repeat' first
   | (with_reducible exact ih0 _ _ _ _ _)
   | (with_reducible exact ih1 _ _ _ _ _ _ _ _)
   | (with_reducible exact LeO.refl _)
   | (with_reducible exact LeO.none _)
   | (with_reducible refine LeO.ite ?_ ?_)
   | (with_reducible refine LeO.bind ?_ (fun _=>?_))
   | exact ih0 _ _ _ _ _
   | exact ih1 _ _ _ _ _ _ _ _
   | exact LeO.none _
   | refine LeO.ite ?_ ?_
   | refine LeO.bind ?_ (fun _=>?_)
theorem foretelllaw_models.mono:∀ a0 a1 k,LeO (foretelllaw_models.f k a0 a1) (foretelllaw_models.f (k + 1) a0 a1):=by
 intro a0 a1 k
 obtain ⟨ih0,ih1⟩:=foretelllaw_models.mono_l k
 unfold foretelllaw_models.f
 repeat' first
   | (with_reducible exact ih0 _ _ _ _ _)
   | (with_reducible exact ih1 _ _ _ _ _ _ _ _)
   | (with_reducible exact LeO.refl _)
   | (with_reducible exact LeO.none _)
   | (with_reducible refine LeO.ite ?_ ?_)
   | (with_reducible refine LeO.bind ?_ (fun _=>?_))
   | exact ih0 _ _ _ _ _
   | exact ih1 _ _ _ _ _ _ _ _
   | exact LeO.none _
   | refine LeO.ite ?_ ?_
   | refine LeO.bind ?_ (fun _=>?_)
def foretelllaw_models.T10:Bool × List (List Nat × List Nat):=(true,[([],[]),([0],[0]),([],[]),([2],[2]),([],[]),([4],[4]),([5],[5]),([3,6],[3,6]),([7],[7]),([1,8,6],[1,8]),([0,1,2,3,4,5,6,7,8,9],[]),([10,9,9,0,1,2,3,4,5,6,7,8,9],[9,10])])
def foretelllaw_models.B10:List Nat:=[0,1,0,4,0,16,48,124,252,511,1023,2047]
theorem foretelllaw_models.tab10:rtab .any (opsOf Tryd.f15 10) = foretelllaw_models.T10:=by kernel_rfl
theorem foretelllaw_models.bits10:waitsOk foretelllaw_models.T10.2 foretelllaw_models.B10 = true:=by kernel_rfl
set_option maxHeartbeats 8000000 in
set_option maxRecDepth 100000 in
theorem foretelllaw_models.calls (k:Nat) (A0_0:Option Addr) (c0_0:Nat) (l0_0:List (S74)) (A0_1:Option Addr) (c0_1:Nat) (l0_1:List (S68)) (r1:List (S74)) (r2:List (S68)) (w:World) (hr0_0:Kd.C k74 w A0_0 l0_0.length l0_0) (hc0_0:l0_0.length ≤ c0_0) (hr0_1:Kd.C k68 w A0_1 l0_1.length l0_1) (hc0_1:l0_1.length ≤ c0_1) (h:foretelllaw_models.f k l0_0 l0_1 = some (r1,r2)) :
  Calls Tryd.prog 15 #[.agg #[.slice A0_0 l0_0.length c0_0,.slice A0_1 l0_1.length c0_1]] w fun e w'=>∃ v0_ v1_:Value,e = .returned (.agg #[v0_,v1_])∧Kd.R k74 74 w' w.heap.size (fun _=>True) v0_ r1∧Kd.R k68 68 w' w.heap.size (fun _=>True) v1_ r2∧Below w.heap.size w w':=by
 have hu25:=Tryd.underlying25
 have hu68:=Tryd.underlying68
 have hu70:=Tryd.underlying70
 have HR0_0:=zA hr0_0
 have HC0_0:=zA hc0_0
 clear hr0_0 hc0_0
 have HR0_1:=zA hr0_1
 have HC0_1:=zA hc0_1
 clear hr0_1 hc0_1
 have HB:=zA (Below.refl w.heap.size w)
 have H:(if ([]:List (S74)).length + l0_0.length < 3518437208883 then (foretelllaw_models.l0 k 0 l0_0 l0_1 (([]:List (S74)) ++ l0_0) ([]:List (S68))) else (none)) = some (r1,r2):=h
 clear h
 by_cases c2:([]:List (S74)).length + l0_0.length < 3518437208883
 ·rw [if_pos c2] at H
  have LMc2:=zA c2
  clear c2
  obtain ⟨y106,hy106⟩:∃ y_:List (S74),y_ = (([]:List (S74)) ++ l0_0):=⟨_,rfl⟩
  replace H:(foretelllaw_models.l0 k 0 l0_0 l0_1 y106 ([]:List (S68))) = some (r1,r2):=by first|(rw [hy106];with_reducible exact H)|(have H2_:=(Option.bind_some _ _).symm.trans H;rw [hy106];with_reducible exact H2_)|(have H2_:=(Option.bind_some _ _).symm.trans H;with_reducible exact H2_)|with_reducible exact H|(rw [hy106];exact H)|exact H
  have Ny106:=zA hy106
  clear hy106
  have H':=zA H
  clear H
  go_enter Tryd.func15,Tryd.ntmps15
  go_wp2_with (first|((with_reducible refine zV (N:=1) rfl ?_);refine zW ?hg (N:=1) ?hd (cs:=#[.slice A0_0 l0_0.length c0_0,.slice A0_1 l0_1.length c0_1]) (t:=25) ?hr ?_;(case hd=>rfl);(case hg=>rfl);(case hr=>first|(go_simp;done)|(go_simp;rfl));intro gb104 hg w3 hbox hb;have n0_:=zA (zH (by repeat (first|(with_reducible first|exact HB.out|apply zD|apply zC|apply zE)|exact HB.out)) hb);have n1_:=zA (hbox);have n2_:=zA ((by rw [hg];exact (zG (by repeat (first|(with_reducible first|exact HB.out|apply zD|apply zC|apply zE)|exact HB.out))):w.heap.size ≤ gb104));have n3_:=zA ((by rw [hg];exact (zG (by repeat (first|(with_reducible first|exact HB.out|apply zD|apply zC|apply zE)|exact HB.out))):w.heap.size ≤ gb104));clear HB;have HB:=n0_;have BK104:=n1_;have GW104:=n2_;have GE104:=n3_;clear n0_ n1_ n2_ n3_;clear hb hbox hg)|((with_reducible refine zV (N:=2) rfl ?_);refine zW ?hg (N:=2) ?hd (cs:=#[.slice none 0 0,.slice none 0 0]) (t:=25) ?hr ?_;(case hd=>rfl);(case hg=>rfl);(case hr=>first|(go_simp;done)|(go_simp;rfl));intro gb105 hg w4 hbox hb;have n0_:=zA (zN (g:=gb104) (o:=.cells #[.slice A0_0 l0_0.length c0_0,.slice A0_1 l0_1.length c0_1] 25 (0,0)) (by (with_reducible repeat (first|refine zL ?_ _|refine zM ?_|refine zK ?_ _));exact BK104.out) hb);have n1_:=zA (zH (by repeat (first|(with_reducible first|exact HB.out|apply zD|apply zC|apply zE|refine zF ?_ GE104.out)|exact HB.out)) hb);have n2_:=zA (hbox);have n3_:=zA ((by rw [hg];exact (zG (by repeat (first|(with_reducible first|exact HB.out|apply zD|apply zC|apply zE|refine zF ?_ GE104.out)|exact HB.out))):w.heap.size ≤ gb105));have n4_:=zA ((by rw [hg];exact (zG (by repeat (first|(with_reducible first|exact HB.out|apply zD|apply zC|apply zE|refine zF ?_ GE104.out)|exact HB.out))):w.heap.size ≤ gb105));have n5_:=zA ((by rw [hg];exact Nat.ne_of_lt (blk_lt (g:=gb104) (o:=.cells #[.slice A0_0 l0_0.length c0_0,.slice A0_1 l0_1.length c0_1] 25 (0,0)) (by (with_reducible repeat (first|refine zL ?_ _|refine zM ?_|refine zK ?_ _));exact BK104.out)):gb104 ≠ gb105));have n6_:=zA ((by rw [hg];exact Nat.ne_of_gt (blk_lt (g:=gb104) (o:=.cells #[.slice A0_0 l0_0.length c0_0,.slice A0_1 l0_1.length c0_1] 25 (0,0)) (by (with_reducible repeat (first|refine zL ?_ _|refine zM ?_|refine zK ?_ _));exact BK104.out)):gb105 ≠ gb104));clear BK104;clear HB;have BK104:=n0_;have HB:=n1_;have BK105:=n2_;have GW105:=n3_;have GE105:=n4_;have NB104_105:=n5_;have NB105_104:=n6_;clear n0_ n1_ n2_ n3_ n4_ n5_ n6_;clear hb hbox hg;have hnb5:=NB104_105.out;have hnc5:=NB105_104.out;have hcz6_0:w4.cell? ⟨gb104,0,none⟩ = some (.slice A0_0 l0_0.length c0_0):=(zI BK104.out 0).trans rfl;have hcz6_1:w4.cell? ⟨gb104,1,none⟩ = some (.slice A0_1 l0_1.length c0_1):=(zI BK104.out 1).trans rfl;have hfz6_0:=zJ BK104.out 0;have hfz6_1:=zJ BK104.out 1)|((with_reducible refine gate_builtin (b:=.append) (xs:=#[.const (.slice none 0 0),.tmp 9]) rfl ?_);at_builtin;refine Kd.R_append_rows k74 (w0:=w) w.heap.size rfl (.const (.slice none 0 0)) (.tmp 9) 22 74 (.agg #[(.string ⟨#[]⟩),(.int .i64 0),(.int .i64 0),(.int .i64 0)]) 40 rfl Tryd.underlying22 info74 rfl (by decide) (by omega) (.slice none 0 0) ([]:List (S74)) l0_0 _ _ _ (fun _=>True) (fun _=>False) rfl rfl ?aO ?aR (fun _ _ h=>h) (fun _ h=>h.elim) ?aF ?aB ?aS ?aL ?_;(case aR=>repeat (first|exact (zT HR0_0.out HB.out)|(with_reducible refine Kd.C_alloc ?_ _)|(with_reducible refine Kd.C_drewN ?_ _)|(with_reducible refine Kd.C_drew ?_)));(case aB=>exact (by repeat (first|(with_reducible first|exact HB.out|apply zD|apply zC|apply zE|refine zF ?_ GE104.out|refine zF ?_ GE105.out)|exact HB.out)));(case aF=>exact (fun _ _=>trivial));(case aO=>exact ((Kd.R_nil _ _ _ _ (fun _=>True))));(case aS=>exact (zG (by repeat (first|(with_reducible first|exact HB.out|apply zD|apply zC|apply zE|refine zF ?_ GE104.out|refine zF ?_ GE105.out)|exact HB.out))));(case aL=>have:=LMc2.out;omega);intro v107 w7 ho hb hg hat;rw [← Ny106.out] at ho;have n0_:=zA (blk_grown (g:=gb104) (o:=.cells #[.slice A0_0 l0_0.length c0_0,.slice A0_1 l0_1.length c0_1] 25 (0,0)) (by (with_reducible repeat (first|refine zL ?_ _|refine zM ?_|refine zK ?_ _));exact BK104.out) hg (by simp [Value.ownBlock]));have n1_:=zA (blk_grown (g:=gb105) (o:=.cells #[.slice none 0 0,.slice none 0 0] 25 (0,0)) (by (with_reducible repeat (first|refine zL ?_ _|refine zM ?_|refine zK ?_ _));exact BK105.out) hg (by simp [Value.ownBlock]));have n2_:=zA (hb);have n3_:=zA (ho);clear BK104;clear BK105;clear HB;have BK104:=n0_;have BK105:=n1_;have HB:=n2_;have HO108:=n3_;clear n0_ n1_ n2_ n3_;clear ho hb hg hat;obtain ⟨Ao8,co8,eo8⟩:=Kd.R_slice HO108.out;subst eo8)|((with_reducible refine zV (N:=3) rfl ?_);refine zW ?hg (N:=3) ?hd (cs:=#[.slice none 0 0,.slice none 0 0]) (t:=25) ?hr ?_;(case hd=>rfl);(case hg=>rfl);(case hr=>first|(go_simp;done)|(go_simp;rfl));intro gb109 hg w9 hbox hb;have n0_:=zA (Kd.R_below (by (with_reducible repeat (first|apply Kd.R_alloc|apply Kd.R_drewN|apply Kd.R_drew));exact HO108.out) hb);have n1_:=zA (zN (g:=gb104) (o:=.cells #[.slice A0_0 l0_0.length c0_0,.slice A0_1 l0_1.length c0_1] 25 (0,0)) (by (with_reducible repeat (first|refine zL ?_ _|refine zM ?_|refine zK ?_ _));exact BK104.out) hb);have n2_:=zA (zN (g:=gb105) (o:=.cells #[.slice none 0 0,.slice none 0 0] 25 (0,0)) (by (with_reducible repeat (first|refine zL ?_ _|refine zM ?_|refine zK ?_ _));exact BK105.out) hb);have n3_:=zA (zH (by repeat (first|(with_reducible first|exact HB.out|apply zD|apply zC|apply zE|refine zF ?_ GE104.out|refine zF ?_ GE105.out)|exact HB.out)) hb);have n4_:=zA (hbox);have n5_:=zA ((by rw [hg];exact (zG (by repeat (first|(with_reducible first|exact HB.out|apply zD|apply zC|apply zE|refine zF ?_ GE104.out|refine zF ?_ GE105.out)|exact HB.out))):w.heap.size ≤ gb109));have n6_:=zA ((by rw [hg];exact (zG (by repeat (first|(with_reducible first|exact HB.out|apply zD|apply zC|apply zE|refine zF ?_ GE104.out|refine zF ?_ GE105.out)|exact HB.out))):w.heap.size ≤ gb109));have n7_:=zA ((by rw [hg];exact Nat.ne_of_lt (blk_lt (g:=gb104) (o:=.cells #[.slice A0_0 l0_0.length c0_0,.slice A0_1 l0_1.length c0_1] 25 (0,0)) (by (with_reducible repeat (first|refine zL ?_ _|refine zM ?_|refine zK ?_ _));exact BK104.out)):gb104 ≠ gb109));have n8_:=zA ((by rw [hg];exact Nat.ne_of_gt (blk_lt (g:=gb104) (o:=.cells #[.slice A0_0 l0_0.length c0_0,.slice A0_1 l0_1.length c0_1] 25 (0,0)) (by (with_reducible repeat (first|refine zL ?_ _|refine zM ?_|refine zK ?_ _));exact BK104.out)):gb109 ≠ gb104));have n9_:=zA ((by rw [hg];exact Nat.ne_of_lt (blk_lt (g:=gb105) (o:=.cells #[.slice none 0 0,.slice none 0 0] 25 (0,0)) (by (with_reducible repeat (first|refine zL ?_ _|refine zM ?_|refine zK ?_ _));exact BK105.out)):gb105 ≠ gb109));have n10_:=zA ((by rw [hg];exact Nat.ne_of_gt (blk_lt (g:=gb105) (o:=.cells #[.slice none 0 0,.slice none 0 0] 25 (0,0)) (by (with_reducible repeat (first|refine zL ?_ _|refine zM ?_|refine zK ?_ _));exact BK105.out)):gb109 ≠ gb105));clear HO108;clear BK104;clear BK105;clear HB;have HO108:=n0_;have BK104:=n1_;have BK105:=n2_;have HB:=n3_;have BK109:=n4_;have GW109:=n5_;have GE109:=n6_;have NB104_109:=n7_;have NB109_104:=n8_;have NB105_109:=n9_;have NB109_105:=n10_;clear n0_ n1_ n2_ n3_ n4_ n5_ n6_ n7_ n8_ n9_ n10_;clear hb hbox hg;have hnb10:=NB109_104.out;have hnc10:=NB104_109.out;have hnb11:=NB109_105.out;have hnc11:=NB105_109.out;have hcz12_0:w9.cell? ⟨gb109,0,none⟩ = some (.slice none 0 0):=(zI BK109.out 0).trans rfl;have hcz12_1:w9.cell? ⟨gb109,1,none⟩ = some (.slice none 0 0):=(zI BK109.out 1).trans rfl;have hfz12_0:=zJ BK109.out 0;have hfz12_1:=zJ BK109.out 1))
  go_loopg [4] k (fun kq v4 w'=>∃ (x4_1:Int) (x110001_1:List (S68)) (u110001:Value),v4 = .int .i64 x4_1∧Aside0 (foretelllaw_models.l0 kq x4_1 l0_0 l0_1 y106 x110001_1 = some (r1,r2))∧Aside0 (kq ≤ k)∧Aside0 (Kd.R k74 74 w' w.heap.size (fun _=>True) (.slice Ao8 y106.length co8) y106)∧Aside0 (Kd.R k68 68 w' w.heap.size (fun _=>True) u110001 x110001_1)∧Aside0 (w'.heap[gb104]? = some (.cells #[(.slice A0_0 l0_0.length c0_0),(.slice A0_1 l0_1.length c0_1)] 25 (0,0)))∧Aside0 (w'.heap[gb105]? = some (.cells #[(.slice none 0 0),(.slice none 0 0)] 25 (0,0)))∧Aside0 (w'.heap[gb109]? = some (.cells #[(.slice Ao8 y106.length co8),u110001] 25 (0,0)))∧Aside0 (Below w.heap.size w w'))
  case atStart=>exact ⟨(0),(([]:List (S68))),(.slice none 0 0),(by first|rfl|(simp;done)|(simp [*];done)),H',⟨Nat.le_refl _⟩,⟨by (with_reducible repeat (first|apply Kd.R_alloc|apply Kd.R_drewN|apply Kd.R_drew));exact Kd.R_mono (Kd.R_far (p:=⟨gb109,1,none⟩) (Kd.R_far (p:=⟨gb109,0,none⟩) (Kd.R_types HO108.out BK109.out (by decide)) (fun _ hk=>hk.2) (.slice Ao8 y106.length co8)) (fun _ hk=>hk.2) (.slice none 0 0)) (fun _ hk=>trivial)⟩,⟨by first|exact Kd.R_nil _ _ _ _ _|exact Kd.N_nil _ _ _ _ _|exact Kd.V_nil _ _ _ _ _|exact Kd.Q_nil _ _ _ _ _|exact Kd.S_nil _ _ _ _ _⟩,⟨by (with_reducible repeat (first|refine zL ?_ _|refine zM ?_|refine zK ?_ _));refine blk_far ?_ NB104_109.out _;(with_reducible repeat (first|refine zL ?_ _|refine zM ?_|refine zK ?_ _));refine blk_far ?_ NB104_109.out _;(with_reducible repeat (first|refine zL ?_ _|refine zM ?_|refine zK ?_ _));exact BK104.out⟩,⟨by (with_reducible repeat (first|refine zL ?_ _|refine zM ?_|refine zK ?_ _));refine blk_far ?_ NB105_109.out _;(with_reducible repeat (first|refine zL ?_ _|refine zM ?_|refine zK ?_ _));refine blk_far ?_ NB105_109.out _;(with_reducible repeat (first|refine zL ?_ _|refine zM ?_|refine zK ?_ _));exact BK105.out⟩,⟨by (with_reducible repeat (first|refine zL ?_ _|refine zM ?_|refine zK ?_ _));refine zO (cs:=#[.slice Ao8 y106.length co8,.slice none 0 0]) ?_ 1 _ rfl;(with_reducible repeat (first|refine zL ?_ _|refine zM ?_|refine zK ?_ _));refine zO (cs:=#[.slice none 0 0,.slice none 0 0]) ?_ 0 _ rfl;(with_reducible repeat (first|refine zL ?_ _|refine zM ?_|refine zK ?_ _));exact BK109.out⟩,⟨by repeat (first|(with_reducible first|exact HB.out|apply zD|apply zC|apply zE|refine zF ?_ GE104.out|refine zF ?_ GE105.out|refine zF ?_ GE109.out)|exact HB.out)⟩⟩
  case round =>
   clear H'
   try clear c1
   try clear c2
   try clear p2
   try clear c5
   try clear c10
   try clear c11
   try clear hcz12_0
   try clear hcz12_1
   try clear hcz6_0
   try clear hcz6_1
   try clear hfz12_0
   try clear hfz12_1
   try clear hfz6_0
   try clear hfz6_1
   obtain ⟨x4_1,x110001_1,u110001,rfl,HA,HK1,HO_110000,HO_110001,BK104,BK105,BK109,HB⟩:=hrel
   cases gk with
   | zero=>exact absurd HA.out (by simp [foretelllaw_models.l0])
   | succ k1 =>
    have H:=HA.out
    clear HA
    simp only [foretelllaw_models.l0] at H
    by_cases c13:x4_1 < (l0_1.length:Int)
    ·rw [if_pos c13] at H
     have c13b0:decide (x4_1 < (l0_1.length:Int)) = true:=zQ c13
     clear c13
     by_cases c14:0 ≤ x4_1
     ·rw [if_pos c14] at H
      have c14b0:decide (0 ≤ x4_1) = true:=zQ c14
      clear c14
      replace H:=zb.mp H
      obtain ⟨t111,A150,H⟩:=H
      replace H:(foretelllaw_models.l1 k1 x4_1 0 l0_0 l0_1 y106 x110001_1 t111 ([]:List (S70))) = some (r1,r2):=H
      have A15:=zA A150
      clear A150
      have H':=zA H
      clear H
      have hnb16:=NB104_105.out
      have hnc16:=NB105_104.out
      have hnb17:=NB104_109.out
      have hnc17:=NB109_104.out
      have hcz18_0:wr.cell? ⟨gb104,0,none⟩ = some (.slice A0_0 l0_0.length c0_0):=(zI BK104.out 0).trans rfl
      have hcz18_1:wr.cell? ⟨gb104,1,none⟩ = some (.slice A0_1 l0_1.length c0_1):=(zI BK104.out 1).trans rfl
      have hfz18_0:=zJ BK104.out 0
      have hfz18_1:=zJ BK104.out 1
      have p110:0 ≤ (x4_1:Int):=zP (by assumption)
      have q110:x4_1 < (l0_1.length:Int):=zP (by assumption)
      obtain ⟨ad110,A110_0,c110_0,A110_1,c110_1,e110,hx110_0,hx110_1,hl110_0,hi110_0,hl110_1,hi110_1⟩:=at_T68 HR0_1.out x4_1 p110 q110
      cases e110
      replace hx110_0:=(HB.out.cell (zB w _ hx110_0)).trans hx110_0
      replace hx110_1:=(HB.out.cell (zB w _ hx110_1)).trans hx110_1
      have HR110_0:=zA hi110_0
      have HC110_0:=zA hl110_0
      clear hi110_0 hl110_0
      have HR110_1:=zA hi110_1
      have HC110_1:=zA hl110_1
      clear hi110_1 hl110_1
      replace p110:=eq_true p110
      replace q110:=eq_true q110
      go_wp2_with (first|((with_reducible refine zU (f:=47) rfl ?_);refine goesL_ (some 25) rfl rfl Tryd.func47 (by kernel_rfl) rfl #[.slice A110_0 ((rd_T68 l0_1 x4_1).f0).length c110_0] rfl (by (try simp only [zx,zy,zz]);first|done|rfl|(simp only [zd,zt];rfl)) ?_;(with_reducible refine (foretelllaw_ops.calls _ _ ((rd_T68 l0_1 x4_1).f0) t111 _ ?side1 ?side2 A15.out).mono ?_);(case side1=>repeat (first|exact (zT HR110_0.out HB.out)|(with_reducible refine Kd.C_alloc ?_ _)|(with_reducible refine Kd.C_drewN ?_ _)|(with_reducible refine Kd.C_drew ?_)));(case side2=>exact HC110_0.out);rintro e w19 ⟨v112,rfl,ho0,hb⟩;refine ⟨_,rfl,?_⟩;have n0_:=zA (Kd.R_below (by (with_reducible repeat (first|apply Kd.R_alloc|apply Kd.R_drewN|apply Kd.R_drew));exact HO_110000.out) hb);have n1_:=zA (Kd.R_elder' (by (with_reducible repeat (first|apply Kd.R_alloc|apply Kd.R_drewN|apply Kd.R_drew));exact HO_110001.out) (Kd.R_base ho0) hb);have n2_:=zA (Kd.R_lower ho0 (zG (by repeat (first|(with_reducible first|exact HB.out|apply zD|apply zC|apply zE|refine zF ?_ GE104.out|refine zF ?_ GE105.out|refine zF ?_ GE109.out)|exact HB.out))));have n3_:=zA (zN (g:=gb104) (o:=.cells #[.slice A0_0 l0_0.length c0_0,.slice (some ad110) l0_1.length c0_1] 25 (0,0)) (by (with_reducible repeat (first|refine zL ?_ _|refine zM ?_|refine zK ?_ _));exact BK104.out) hb);have n4_:=zA (zN (g:=gb105) (o:=.cells #[.slice none 0 0,.slice none 0 0] 25 (0,0)) (by (with_reducible repeat (first|refine zL ?_ _|refine zM ?_|refine zK ?_ _));exact BK105.out) hb);have n5_:=zA (zN (g:=gb109) (o:=.cells #[.slice Ao8 y106.length co8,u110001] 25 (0,0)) (by (with_reducible repeat (first|refine zL ?_ _|refine zM ?_|refine zK ?_ _));exact BK109.out) hb);have n6_:=zA (zH (by repeat (first|(with_reducible first|exact HB.out|apply zD|apply zC|apply zE|refine zF ?_ GE104.out|refine zF ?_ GE105.out|refine zF ?_ GE109.out)|exact HB.out)) hb);clear HO_110000;clear HO_110001;clear BK104;clear BK105;clear BK109;clear HB;have HO_110000:=n0_;have HO_110001:=n1_;have HO113:=n2_;have BK104:=n3_;have BK105:=n4_;have BK109:=n5_;have HB:=n6_;clear n0_ n1_ n2_ n3_ n4_ n5_ n6_;(try clear hb);(try clear hb2);(try clear hk);(try clear hi);(try clear ho0);obtain ⟨Ao20,co20,eo20⟩:=Kd.R_slice HO113.out;subst eo20)|((with_reducible refine zV (N:=5) rfl ?_);refine zW ?hg (N:=5) ?hd (cs:=#[.slice none 0 0,.slice none 0 0]) (t:=68) ?hr ?_;(case hd=>rfl);(case hg=>rfl);(case hr=>first|(go_simp;done)|(go_simp;rfl));intro gb114 hg w21 hbox hb;have n0_:=zA (Kd.R_below (by (with_reducible repeat (first|apply Kd.R_alloc|apply Kd.R_drewN|apply Kd.R_drew));exact HO_110000.out) hb);have n1_:=zA (Kd.R_below (Kd.R_elderB (by (with_reducible repeat (first|apply Kd.R_alloc|apply Kd.R_drewN|apply Kd.R_drew));exact HO_110001.out) gb114 (Nat.le_of_eq hg.symm)) hb);have n2_:=zA (Kd.R_below (by (with_reducible repeat (first|apply Kd.R_alloc|apply Kd.R_drewN|apply Kd.R_drew));exact HO113.out) hb);have n3_:=zA (zN (g:=gb104) (o:=.cells #[.slice A0_0 l0_0.length c0_0,.slice (some ad110) l0_1.length c0_1] 25 (0,0)) (by (with_reducible repeat (first|refine zL ?_ _|refine zM ?_|refine zK ?_ _));exact BK104.out) hb);have n4_:=zA (zN (g:=gb105) (o:=.cells #[.slice none 0 0,.slice none 0 0] 25 (0,0)) (by (with_reducible repeat (first|refine zL ?_ _|refine zM ?_|refine zK ?_ _));exact BK105.out) hb);have n5_:=zA (zN (g:=gb109) (o:=.cells #[.slice Ao8 y106.length co8,u110001] 25 (0,0)) (by (with_reducible repeat (first|refine zL ?_ _|refine zM ?_|refine zK ?_ _));exact BK109.out) hb);have n6_:=zA (zH (by repeat (first|(with_reducible first|exact HB.out|apply zD|apply zC|apply zE|refine zF ?_ GE104.out|refine zF ?_ GE105.out|refine zF ?_ GE109.out)|exact HB.out)) hb);have n7_:=zA (hbox);have n8_:=zA ((by rw [hg];exact (zG (by repeat (first|(with_reducible first|exact HB.out|apply zD|apply zC|apply zE|refine zF ?_ GE104.out|refine zF ?_ GE105.out|refine zF ?_ GE109.out)|exact HB.out))):w.heap.size ≤ gb114));have n9_:=zA ((by rw [hg];exact (zG (by repeat (first|(with_reducible first|exact HB.out|apply zD|apply zC|apply zE|refine zF ?_ GE104.out|refine zF ?_ GE105.out|refine zF ?_ GE109.out)|exact HB.out))):w.heap.size ≤ gb114));have n10_:=zA ((by rw [hg];exact Nat.ne_of_lt (blk_lt (g:=gb104) (o:=.cells #[.slice A0_0 l0_0.length c0_0,.slice (some ad110) l0_1.length c0_1] 25 (0,0)) (by (with_reducible repeat (first|refine zL ?_ _|refine zM ?_|refine zK ?_ _));exact BK104.out)):gb104 ≠ gb114));have n11_:=zA ((by rw [hg];exact Nat.ne_of_gt (blk_lt (g:=gb104) (o:=.cells #[.slice A0_0 l0_0.length c0_0,.slice (some ad110) l0_1.length c0_1] 25 (0,0)) (by (with_reducible repeat (first|refine zL ?_ _|refine zM ?_|refine zK ?_ _));exact BK104.out)):gb114 ≠ gb104));have n12_:=zA ((by rw [hg];exact Nat.ne_of_lt (blk_lt (g:=gb105) (o:=.cells #[.slice none 0 0,.slice none 0 0] 25 (0,0)) (by (with_reducible repeat (first|refine zL ?_ _|refine zM ?_|refine zK ?_ _));exact BK105.out)):gb105 ≠ gb114));have n13_:=zA ((by rw [hg];exact Nat.ne_of_gt (blk_lt (g:=gb105) (o:=.cells #[.slice none 0 0,.slice none 0 0] 25 (0,0)) (by (with_reducible repeat (first|refine zL ?_ _|refine zM ?_|refine zK ?_ _));exact BK105.out)):gb114 ≠ gb105));have n14_:=zA ((by rw [hg];exact Nat.ne_of_lt (blk_lt (g:=gb109) (o:=.cells #[.slice Ao8 y106.length co8,u110001] 25 (0,0)) (by (with_reducible repeat (first|refine zL ?_ _|refine zM ?_|refine zK ?_ _));exact BK109.out)):gb109 ≠ gb114));have n15_:=zA ((by rw [hg];exact Nat.ne_of_gt (blk_lt (g:=gb109) (o:=.cells #[.slice Ao8 y106.length co8,u110001] 25 (0,0)) (by (with_reducible repeat (first|refine zL ?_ _|refine zM ?_|refine zK ?_ _));exact BK109.out)):gb114 ≠ gb109));clear HO_110000;clear HO_110001;clear HO113;clear BK104;clear BK105;clear BK109;clear HB;have HO_110000:=n0_;have HO_110001:=n1_;have HO113:=n2_;have BK104:=n3_;have BK105:=n4_;have BK109:=n5_;have HB:=n6_;have BK114:=n7_;have GW114:=n8_;have GE114:=n9_;have NB104_114:=n10_;have NB114_104:=n11_;have NB105_114:=n12_;have NB114_105:=n13_;have NB109_114:=n14_;have NB114_109:=n15_;clear n0_ n1_ n2_ n3_ n4_ n5_ n6_ n7_ n8_ n9_ n10_ n11_ n12_ n13_ n14_ n15_;clear hb hbox hg;have hnb22:=NB114_104.out;have hnc22:=NB104_114.out;have hnb23:=NB114_105.out;have hnc23:=NB105_114.out;have hnb24:=NB114_109.out;have hnc24:=NB109_114.out;have hcz25_0:w21.cell? ⟨gb114,0,none⟩ = some (.slice none 0 0):=(zI BK114.out 0).trans rfl;have hcz25_1:w21.cell? ⟨gb114,1,none⟩ = some (.slice none 0 0):=(zI BK114.out 1).trans rfl;have hfz25_0:=zJ BK114.out 0;have hfz25_1:=zJ BK114.out 1))
      go_loopg [6] k1 (fun kq v6 w'=>∃ (x6_2:Int) (x115001_2:List (S70)) (u115001:Value),v6 = .int .i64 x6_2∧Aside0 (foretelllaw_models.l1 kq x4_1 x6_2 l0_0 l0_1 y106 x110001_1 t111 x115001_2 = some (r1,r2))∧Aside0 (kq ≤ k1)∧Aside0 (Kd.R k74 74 w' w.heap.size (fun _=>True) (.slice Ao8 y106.length co8) y106)∧Aside0 (Kd.R k68 68 w' w.heap.size (fun k_=>some k_ ≠ ((.slice Ao20 t111.length co20):Value).ownBlock∧some k_ ≠ (u115001:Value).ownBlock∧k_ ≠ gb114) u110001 x110001_1)∧Aside0 (Kd.R k94 94 w' w.heap.size (fun _=>True) (.slice Ao20 t111.length co20) t111)∧Aside0 (Kd.S k70 70 w' w.heap.size (fun k_=>some k_ ≠ ((.slice Ao20 t111.length co20):Value).ownBlock) u115001 x115001_2)∧Aside0 (w'.heap[gb104]? = some (.cells #[(.slice A0_0 l0_0.length c0_0),(.slice (some ad110) l0_1.length c0_1)] 25 (0,0)))∧Aside0 (w'.heap[gb105]? = some (.cells #[(.slice none 0 0),(.slice none 0 0)] 25 (0,0)))∧Aside0 (w'.heap[gb109]? = some (.cells #[(.slice Ao8 y106.length co8),u110001] 25 (0,0)))∧Aside0 (w'.heap[gb114]? = some (.cells #[(.slice Ao20 t111.length co20),u115001] 68 (0,0)))∧Aside0 (Below w.heap.size w w'))
      case atStart=>exact ⟨(0),(([]:List (S70))),(.slice none 0 0),(by first|rfl|(simp;done)|(simp [*];done)),H',⟨Nat.le_refl _⟩,⟨by (with_reducible repeat (first|apply Kd.R_alloc|apply Kd.R_drewN|apply Kd.R_drew));exact Kd.R_mono (Kd.R_far (p:=⟨gb114,1,none⟩) (Kd.R_far (p:=⟨gb114,0,none⟩) (Kd.R_types HO_110000.out BK114.out (by decide)) (fun _ hk=>hk.2) (.slice Ao20 t111.length co20)) (fun _ hk=>hk.2) (.slice none 0 0)) (fun _ hk=>trivial)⟩,⟨by (with_reducible repeat (first|apply Kd.R_alloc|apply Kd.R_drewN|apply Kd.R_drew));exact Kd.R_mono (Kd.R_far (p:=⟨gb114,1,none⟩) (Kd.R_far (p:=⟨gb114,0,none⟩) (Kd.R_mono HO_110001.out (fun k_ hk=>(⟨hk,hk.2⟩:_∧k_ ≠ gb114))) (fun _ hk=>hk.2) (.slice Ao20 t111.length co20)) (fun _ hk=>hk.2) (.slice none 0 0)) (fun _ hk=>⟨hk.1.1.2,⟨(by simp [Value.ownBlock]),hk.1.2⟩⟩)⟩,⟨by (with_reducible repeat (first|apply Kd.R_alloc|apply Kd.R_drewN|apply Kd.R_drew));exact Kd.R_mono (Kd.R_far (p:=⟨gb114,1,none⟩) (Kd.R_far (p:=⟨gb114,0,none⟩) (Kd.R_types HO113.out BK114.out (by decide)) (fun _ hk=>hk.2) (.slice Ao20 t111.length co20)) (fun _ hk=>hk.2) (.slice none 0 0)) (fun _ hk=>trivial)⟩,⟨by first|exact Kd.S_nil _ _ _ _ _|exact Kd.N_nil _ _ _ _ _|exact Kd.V_nil _ _ _ _ _|exact Kd.Q_nil _ _ _ _ _|exact Kd.R_nil _ _ _ _ _⟩,⟨by (with_reducible repeat (first|refine zL ?_ _|refine zM ?_|refine zK ?_ _));refine blk_far ?_ NB104_114.out _;(with_reducible repeat (first|refine zL ?_ _|refine zM ?_|refine zK ?_ _));refine blk_far ?_ NB104_114.out _;(with_reducible repeat (first|refine zL ?_ _|refine zM ?_|refine zK ?_ _));exact BK104.out⟩,⟨by (with_reducible repeat (first|refine zL ?_ _|refine zM ?_|refine zK ?_ _));refine blk_far ?_ NB105_114.out _;(with_reducible repeat (first|refine zL ?_ _|refine zM ?_|refine zK ?_ _));refine blk_far ?_ NB105_114.out _;(with_reducible repeat (first|refine zL ?_ _|refine zM ?_|refine zK ?_ _));exact BK105.out⟩,⟨by (with_reducible repeat (first|refine zL ?_ _|refine zM ?_|refine zK ?_ _));refine blk_far ?_ NB109_114.out _;(with_reducible repeat (first|refine zL ?_ _|refine zM ?_|refine zK ?_ _));refine blk_far ?_ NB109_114.out _;(with_reducible repeat (first|refine zL ?_ _|refine zM ?_|refine zK ?_ _));exact BK109.out⟩,⟨by (with_reducible repeat (first|refine zL ?_ _|refine zM ?_|refine zK ?_ _));refine zO (cs:=#[.slice Ao20 t111.length co20,.slice none 0 0]) ?_ 1 _ rfl;(with_reducible repeat (first|refine zL ?_ _|refine zM ?_|refine zK ?_ _));refine zO (cs:=#[.slice none 0 0,.slice none 0 0]) ?_ 0 _ rfl;(with_reducible repeat (first|refine zL ?_ _|refine zM ?_|refine zK ?_ _));exact BK114.out⟩,⟨by repeat (first|(with_reducible first|exact HB.out|apply zD|apply zC|apply zE|refine zF ?_ GE104.out|refine zF ?_ GE105.out|refine zF ?_ GE109.out|refine zF ?_ GE114.out)|exact HB.out)⟩⟩
      case round =>
       clear H'
       try clear c1
       try clear p1
       try clear q1
       try clear hx1
       try clear c2
       try clear p2
       try clear c4
       try clear c5
       try clear c10
       try clear c11
       try clear p11
       try clear q11
       try clear hx11
       try clear c13
       try clear c13b0
       try clear c14
       try clear c14b0
       try clear c15
       try clear c16
       try clear c17
       try clear c22
       try clear c23
       try clear c24
       try clear hcz12_0
       try clear hcz12_1
       try clear hcz18_0
       try clear hcz18_1
       try clear hcz25_0
       try clear hcz25_1
       try clear hcz6_0
       try clear hcz6_1
       try clear hfz12_0
       try clear hfz12_1
       try clear hfz18_0
       try clear hfz18_1
       try clear hfz25_0
       try clear hfz25_1
       try clear hfz6_0
       try clear hfz6_1
       try clear hx110_0
       try clear hx110_1
       try clear p110
       try clear p2
       try clear q110
       obtain ⟨x6_2,x115001_2,u115001,rfl,HA,HK2,HO_110000,HO_110001,HO_115000,HO_115001,BK104,BK105,BK109,BK114,HB⟩:=hrel
       cases gk with
       | zero=>exact absurd HA.out (by simp [foretelllaw_models.l1])
       | succ k2 =>
        have H:=HA.out
        clear HA
        simp only [foretelllaw_models.l1] at H
        by_cases c26:0 ≤ x4_1
        ·rw [if_pos c26] at H
         have c26b0:decide (0 ≤ x4_1) = true:=zQ c26
         clear c26
         by_cases c27:x4_1 < (l0_1.length:Int)
         ·rw [if_pos c27] at H
          have c27b0:decide (x4_1 < (l0_1.length:Int)) = true:=zQ c27
          clear c27
          by_cases c28:x6_2 < (((rd_T68 l0_1 x4_1).f1).length:Int)
          ·rw [if_pos c28] at H
           have c28b0:decide (x6_2 < (((rd_T68 l0_1 x4_1).f1).length:Int)) = true:=zQ c28
           clear c28
           by_cases c29:0 ≤ x6_2
           ·rw [if_pos c29] at H
            have c29b0:decide (0 ≤ x6_2) = true:=zQ c29
            clear c29
            replace H:=zb.mp H
            obtain ⟨t119,A300,H⟩:=H
            replace H:(if x115001_2.length < 4398046511104 then (foretelllaw_models.l1 k2 x4_1 (wrap64 (x6_2 + 1)) l0_0 l0_1 y106 x110001_1 t111 (x115001_2 ++ [(⟨(rd_T70 ((rd_T68 l0_1 x4_1).f1) x6_2).f0,t119⟩:S70)])) else (none)) = some (r1,r2):=H
            have A30:=zA A300
            clear A300
            by_cases c31:x115001_2.length < 4398046511104
            ·rw [if_pos c31] at H
             have LMc31:=zA c31
             clear c31
             obtain ⟨y122,hy122⟩:∃ y_:List (S70),y_ = (x115001_2 ++ [(⟨(rd_T70 ((rd_T68 l0_1 x4_1).f1) x6_2).f0,t119⟩:S70)]):=⟨_,rfl⟩
             replace H:(foretelllaw_models.l1 k2 x4_1 (wrap64 (x6_2 + 1)) l0_0 l0_1 y106 x110001_1 t111 y122) = some (r1,r2):=by first|(rw [hy122];with_reducible exact H)|(have H2_:=(Option.bind_some _ _).symm.trans H;rw [hy122];with_reducible exact H2_)|(have H2_:=(Option.bind_some _ _).symm.trans H;with_reducible exact H2_)|with_reducible exact H|(rw [hy122];exact H)|exact H
             have Ny122:=zA hy122
             clear hy122
             have H':=zA H
             clear H
             have hnb32:=NB104_105.out
             have hnc32:=NB105_104.out
             have hnb33:=NB104_109.out
             have hnc33:=NB109_104.out
             have hnb34:=NB104_114.out
             have hnc34:=NB114_104.out
             have hcz35_0:wr.cell? ⟨gb104,0,none⟩ = some (.slice A0_0 l0_0.length c0_0):=(zI BK104.out 0).trans rfl
             have hcz35_1:wr.cell? ⟨gb104,1,none⟩ = some (.slice (some ad110) l0_1.length c0_1):=(zI BK104.out 1).trans rfl
             have hfz35_0:=zJ BK104.out 0
             have hfz35_1:=zJ BK104.out 1
             have p115:0 ≤ (x4_1:Int):=zP (by assumption)
             have q115:x4_1 < (l0_1.length:Int):=zP (by assumption)
             obtain ⟨ad115,A115_0,c115_0,A115_1,c115_1,e115,hx115_0,hx115_1,hl115_0,hi115_0,hl115_1,hi115_1⟩:=at_T68 HR0_1.out x4_1 p115 q115
             obtain rfl:ad110 = ad115:=(by injection e115)
             replace hx115_0:=(HB.out.cell (zB w _ hx115_0)).trans hx115_0
             replace hx115_1:=(HB.out.cell (zB w _ hx115_1)).trans hx115_1
             have HR115_0:=zA hi115_0
             have HC115_0:=zA hl115_0
             clear hi115_0 hl115_0
             have HR115_1:=zA hi115_1
             have HC115_1:=zA hl115_1
             clear hi115_1 hl115_1
             replace p115:=eq_true p115
             replace q115:=eq_true q115
             have p116:0 ≤ (x4_1:Int):=zP (by assumption)
             have q116:x4_1 < (l0_1.length:Int):=zP (by assumption)
             obtain ⟨ad116,A116_0,c116_0,A116_1,c116_1,e116,hx116_0,hx116_1,hl116_0,hi116_0,hl116_1,hi116_1⟩:=at_T68 HR0_1.out x4_1 p116 q116
             obtain rfl:ad110 = ad116:=(by injection e116)
             replace hx116_0:=(HB.out.cell (zB w _ hx116_0)).trans hx116_0
             replace hx116_1:=(HB.out.cell (zB w _ hx116_1)).trans hx116_1
             have HR116_0:=zA hi116_0
             have HC116_0:=zA hl116_0
             clear hi116_0 hl116_0
             have HR116_1:=zA hi116_1
             have HC116_1:=zA hl116_1
             clear hi116_1 hl116_1
             replace p116:=eq_true p116
             replace q116:=eq_true q116
             have ea_:=Option.some.inj (hx115_0.symm.trans hx116_0)
             injection ea_ with ea_ en_ ec_
             subst ea_
             subst ec_
             clear en_
             have ea_:=Option.some.inj (hx115_1.symm.trans hx116_1)
             injection ea_ with ea_ en_ ec_
             subst ea_
             subst ec_
             clear en_
             have p117:0 ≤ (x6_2:Int):=zP (by assumption)
             have q117:x6_2 < (((rd_T68 l0_1 x4_1).f1).length:Int):=zP (by assumption)
             obtain ⟨ad117,A117_1,c117_1,e117,hx117_0,hx117_1,hl117_1,hi117_1⟩:=at_T70 HR116_1.out x6_2 p117 q117
             cases e117
             replace hx117_0:=(HB.out.cell (zB w _ hx117_0)).trans hx117_0
             replace hx117_1:=(HB.out.cell (zB w _ hx117_1)).trans hx117_1
             have HR117_1:=zA hi117_1
             have HC117_1:=zA hl117_1
             clear hi117_1 hl117_1
             replace p117:=eq_true p117
             replace q117:=eq_true q117
             try go_wp2_with (first|((with_reducible refine zV (N:=7) rfl ?_);refine zW ?hg (N:=7) ?hd (cs:=#[.int .i64 0,.slice none 0 0]) (t:=70) ?hr ?_;(case hd=>rfl);(case hg=>rfl);(case hr=>first|(go_simp;done)|(go_simp;rfl));intro gb118 hg w36 hbox hb;have n0_:=zA (Kd.R_below (by (with_reducible repeat (first|apply Kd.R_alloc|apply Kd.R_drewN|apply Kd.R_drew));exact HO_110000.out) hb);have n1_:=zA (Kd.R_below (Kd.R_elderB (by (with_reducible repeat (first|apply Kd.R_alloc|apply Kd.R_drewN|apply Kd.R_drew));exact HO_110001.out) gb118 (Nat.le_of_eq hg.symm)) hb);have n2_:=zA (Kd.R_below (by (with_reducible repeat (first|apply Kd.R_alloc|apply Kd.R_drewN|apply Kd.R_drew));exact HO_115000.out) hb);have n3_:=zA (Kd.S_below (Kd.S_elderB (by (with_reducible repeat (first|apply Kd.S_alloc|apply Kd.S_drewN|apply Kd.S_drew));exact HO_115001.out) gb118 (Nat.le_of_eq hg.symm)) hb);have n4_:=zA (zN (g:=gb104) (o:=.cells #[.slice A0_0 l0_0.length c0_0,.slice (some ad110) l0_1.length c0_1] 25 (0,0)) (by (with_reducible repeat (first|refine zL ?_ _|refine zM ?_|refine zK ?_ _));exact BK104.out) hb);have n5_:=zA (zN (g:=gb105) (o:=.cells #[.slice none 0 0,.slice none 0 0] 25 (0,0)) (by (with_reducible repeat (first|refine zL ?_ _|refine zM ?_|refine zK ?_ _));exact BK105.out) hb);have n6_:=zA (zN (g:=gb109) (o:=.cells #[.slice Ao8 y106.length co8,u110001] 25 (0,0)) (by (with_reducible repeat (first|refine zL ?_ _|refine zM ?_|refine zK ?_ _));exact BK109.out) hb);have n7_:=zA (zN (g:=gb114) (o:=.cells #[.slice Ao20 t111.length co20,u115001] 68 (0,0)) (by (with_reducible repeat (first|refine zL ?_ _|refine zM ?_|refine zK ?_ _));exact BK114.out) hb);have n8_:=zA (zH (by repeat (first|(with_reducible first|exact HB.out|apply zD|apply zC|apply zE|refine zF ?_ GE104.out|refine zF ?_ GE105.out|refine zF ?_ GE109.out|refine zF ?_ GE114.out)|exact HB.out)) hb);have n9_:=zA (hbox);have n10_:=zA ((by rw [hg];exact (zG (by repeat (first|(with_reducible first|exact HB.out|apply zD|apply zC|apply zE|refine zF ?_ GE104.out|refine zF ?_ GE105.out|refine zF ?_ GE109.out|refine zF ?_ GE114.out)|exact HB.out))):w.heap.size ≤ gb118));have n11_:=zA ((by rw [hg];exact (zG (by repeat (first|(with_reducible first|exact HB.out|apply zD|apply zC|apply zE|refine zF ?_ GE104.out|refine zF ?_ GE105.out|refine zF ?_ GE109.out|refine zF ?_ GE114.out)|exact HB.out))):w.heap.size ≤ gb118));have n12_:=zA ((by rw [hg];exact Nat.ne_of_lt (blk_lt (g:=gb104) (o:=.cells #[.slice A0_0 l0_0.length c0_0,.slice (some ad110) l0_1.length c0_1] 25 (0,0)) (by (with_reducible repeat (first|refine zL ?_ _|refine zM ?_|refine zK ?_ _));exact BK104.out)):gb104 ≠ gb118));have n13_:=zA ((by rw [hg];exact Nat.ne_of_gt (blk_lt (g:=gb104) (o:=.cells #[.slice A0_0 l0_0.length c0_0,.slice (some ad110) l0_1.length c0_1] 25 (0,0)) (by (with_reducible repeat (first|refine zL ?_ _|refine zM ?_|refine zK ?_ _));exact BK104.out)):gb118 ≠ gb104));have n14_:=zA ((by rw [hg];exact Nat.ne_of_lt (blk_lt (g:=gb105) (o:=.cells #[.slice none 0 0,.slice none 0 0] 25 (0,0)) (by (with_reducible repeat (first|refine zL ?_ _|refine zM ?_|refine zK ?_ _));exact BK105.out)):gb105 ≠ gb118));have n15_:=zA ((by rw [hg];exact Nat.ne_of_gt (blk_lt (g:=gb105) (o:=.cells #[.slice none 0 0,.slice none 0 0] 25 (0,0)) (by (with_reducible repeat (first|refine zL ?_ _|refine zM ?_|refine zK ?_ _));exact BK105.out)):gb118 ≠ gb105));have n16_:=zA ((by rw [hg];exact Nat.ne_of_lt (blk_lt (g:=gb109) (o:=.cells #[.slice Ao8 y106.length co8,u110001] 25 (0,0)) (by (with_reducible repeat (first|refine zL ?_ _|refine zM ?_|refine zK ?_ _));exact BK109.out)):gb109 ≠ gb118));have n17_:=zA ((by rw [hg];exact Nat.ne_of_gt (blk_lt (g:=gb109) (o:=.cells #[.slice Ao8 y106.length co8,u110001] 25 (0,0)) (by (with_reducible repeat (first|refine zL ?_ _|refine zM ?_|refine zK ?_ _));exact BK109.out)):gb118 ≠ gb109));have n18_:=zA ((by rw [hg];exact Nat.ne_of_lt (blk_lt (g:=gb114) (o:=.cells #[.slice Ao20 t111.length co20,u115001] 68 (0,0)) (by (with_reducible repeat (first|refine zL ?_ _|refine zM ?_|refine zK ?_ _));exact BK114.out)):gb114 ≠ gb118));have n19_:=zA ((by rw [hg];exact Nat.ne_of_gt (blk_lt (g:=gb114) (o:=.cells #[.slice Ao20 t111.length co20,u115001] 68 (0,0)) (by (with_reducible repeat (first|refine zL ?_ _|refine zM ?_|refine zK ?_ _));exact BK114.out)):gb118 ≠ gb114));clear HO_110000;clear HO_110001;clear HO_115000;clear HO_115001;clear BK104;clear BK105;clear BK109;clear BK114;clear HB;have HO_110000:=n0_;have HO_110001:=n1_;have HO_115000:=n2_;have HO_115001:=n3_;have BK104:=n4_;have BK105:=n5_;have BK109:=n6_;have BK114:=n7_;have HB:=n8_;have BK118:=n9_;have GW118:=n10_;have GE118:=n11_;have NB104_118:=n12_;have NB118_104:=n13_;have NB105_118:=n14_;have NB118_105:=n15_;have NB109_118:=n16_;have NB118_109:=n17_;have NB114_118:=n18_;have NB118_114:=n19_;clear n0_ n1_ n2_ n3_ n4_ n5_ n6_ n7_ n8_ n9_ n10_ n11_ n12_ n13_ n14_ n15_ n16_ n17_ n18_ n19_;clear hb hbox hg;have hnb37:=NB118_104.out;have hnc37:=NB104_118.out;have hnb38:=NB118_105.out;have hnc38:=NB105_118.out;have hnb39:=NB118_109.out;have hnc39:=NB109_118.out;have hnb40:=NB118_114.out;have hnc40:=NB114_118.out;have hcz41_0:w36.cell? ⟨gb118,0,none⟩ = some (.int .i64 0):=(zI BK118.out 0).trans rfl;have hcz41_1:w36.cell? ⟨gb118,1,none⟩ = some (.slice none 0 0):=(zI BK118.out 1).trans rfl;have hfz41_0:=zJ BK118.out 0;have hfz41_1:=zJ BK118.out 1))
             have n0_:Aside0 (Kd.R k74 74 ((w36.setCell ⟨gb118,0,none⟩ (.int .i64 ((rd_T70 ((rd_T68 l0_1 x4_1).f1) x6_2).f0))).setCell ⟨gb118,1,none⟩ (.slice A117_1 ((rd_T70 ((rd_T68 l0_1 x4_1).f1) x6_2).f1).length c117_1)) w.heap.size (fun _=>True) (.slice Ao8 y106.length co8) y106):=⟨by (with_reducible repeat (first|apply Kd.R_alloc|apply Kd.R_drewN|apply Kd.R_drew));exact Kd.R_mono (Kd.R_far (p:=⟨gb118,1,none⟩) (Kd.R_far (p:=⟨gb118,0,none⟩) (Kd.R_types HO_110000.out BK118.out (by decide)) (fun _ hk=>hk.2) (.int .i64 ((rd_T70 ((rd_T68 l0_1 x4_1).f1) x6_2).f0))) (fun _ hk=>hk.2) (.slice A117_1 ((rd_T70 ((rd_T68 l0_1 x4_1).f1) x6_2).f1).length c117_1)) (fun _ hk=>trivial)⟩
             have n1_:Aside0 (Kd.R k68 68 ((w36.setCell ⟨gb118,0,none⟩ (.int .i64 ((rd_T70 ((rd_T68 l0_1 x4_1).f1) x6_2).f0))).setCell ⟨gb118,1,none⟩ (.slice A117_1 ((rd_T70 ((rd_T68 l0_1 x4_1).f1) x6_2).f1).length c117_1)) w.heap.size (fun k_=>some k_ ≠ (.slice Ao20 t111.length co20:Value).ownBlock∧some k_ ≠ (u115001:Value).ownBlock∧k_ ≠ gb114∧k_ ≠ gb118) u110001 x110001_1):=⟨by (with_reducible repeat (first|apply Kd.R_alloc|apply Kd.R_drewN|apply Kd.R_drew));exact Kd.R_mono (Kd.R_far (p:=⟨gb118,1,none⟩) (Kd.R_far (p:=⟨gb118,0,none⟩) (Kd.R_mono HO_110001.out (fun k_ hk=>(⟨hk,hk.2⟩:_∧k_ ≠ gb118))) (fun _ hk=>hk.2) (.int .i64 ((rd_T70 ((rd_T68 l0_1 x4_1).f1) x6_2).f0))) (fun _ hk=>hk.2) (.slice A117_1 ((rd_T70 ((rd_T68 l0_1 x4_1).f1) x6_2).f1).length c117_1)) (fun _ hk=>⟨hk.1.1.1,⟨hk.1.1.2.1,⟨hk.1.1.2.2,hk.1.2⟩⟩⟩)⟩
             have n2_:Aside0 (Kd.R k94 94 ((w36.setCell ⟨gb118,0,none⟩ (.int .i64 ((rd_T70 ((rd_T68 l0_1 x4_1).f1) x6_2).f0))).setCell ⟨gb118,1,none⟩ (.slice A117_1 ((rd_T70 ((rd_T68 l0_1 x4_1).f1) x6_2).f1).length c117_1)) w.heap.size (fun _=>True) (.slice Ao20 t111.length co20) t111):=⟨by (with_reducible repeat (first|apply Kd.R_alloc|apply Kd.R_drewN|apply Kd.R_drew));exact Kd.R_mono (Kd.R_far (p:=⟨gb118,1,none⟩) (Kd.R_far (p:=⟨gb118,0,none⟩) (Kd.R_types HO_115000.out BK118.out (by decide)) (fun _ hk=>hk.2) (.int .i64 ((rd_T70 ((rd_T68 l0_1 x4_1).f1) x6_2).f0))) (fun _ hk=>hk.2) (.slice A117_1 ((rd_T70 ((rd_T68 l0_1 x4_1).f1) x6_2).f1).length c117_1)) (fun _ hk=>trivial)⟩
             have n3_:Aside0 (Kd.S k70 70 ((w36.setCell ⟨gb118,0,none⟩ (.int .i64 ((rd_T70 ((rd_T68 l0_1 x4_1).f1) x6_2).f0))).setCell ⟨gb118,1,none⟩ (.slice A117_1 ((rd_T70 ((rd_T68 l0_1 x4_1).f1) x6_2).f1).length c117_1)) w.heap.size (fun k_=>some k_ ≠ (.slice Ao20 t111.length co20:Value).ownBlock∧k_ ≠ gb118) u115001 x115001_2):=⟨by (with_reducible repeat (first|apply Kd.S_alloc|apply Kd.S_drewN|apply Kd.S_drew));exact Kd.S_mono (Kd.S_far (p:=⟨gb118,1,none⟩) (Kd.S_far (p:=⟨gb118,0,none⟩) (Kd.S_mono HO_115001.out (fun k_ hk=>(⟨hk,hk.2⟩:_∧k_ ≠ gb118))) (fun _ hk=>hk.2) (.int .i64 ((rd_T70 ((rd_T68 l0_1 x4_1).f1) x6_2).f0))) (fun _ hk=>hk.2) (.slice A117_1 ((rd_T70 ((rd_T68 l0_1 x4_1).f1) x6_2).f1).length c117_1)) (fun _ hk=>⟨hk.1.1,hk.1.2⟩)⟩
             have n4_:Aside0 (((w36.setCell ⟨gb118,0,none⟩ (.int .i64 ((rd_T70 ((rd_T68 l0_1 x4_1).f1) x6_2).f0))).setCell ⟨gb118,1,none⟩ (.slice A117_1 ((rd_T70 ((rd_T68 l0_1 x4_1).f1) x6_2).f1).length c117_1)).heap[gb104]? = some (.cells #[.slice A0_0 l0_0.length c0_0,.slice (some ad110) l0_1.length c0_1] 25 (0,0))):=⟨by (with_reducible repeat (first|refine zL ?_ _|refine zM ?_|refine zK ?_ _));refine blk_far ?_ NB104_118.out _;(with_reducible repeat (first|refine zL ?_ _|refine zM ?_|refine zK ?_ _));refine blk_far ?_ NB104_118.out _;(with_reducible repeat (first|refine zL ?_ _|refine zM ?_|refine zK ?_ _));exact BK104.out⟩
             have n5_:Aside0 (((w36.setCell ⟨gb118,0,none⟩ (.int .i64 ((rd_T70 ((rd_T68 l0_1 x4_1).f1) x6_2).f0))).setCell ⟨gb118,1,none⟩ (.slice A117_1 ((rd_T70 ((rd_T68 l0_1 x4_1).f1) x6_2).f1).length c117_1)).heap[gb105]? = some (.cells #[.slice none 0 0,.slice none 0 0] 25 (0,0))):=⟨by (with_reducible repeat (first|refine zL ?_ _|refine zM ?_|refine zK ?_ _));refine blk_far ?_ NB105_118.out _;(with_reducible repeat (first|refine zL ?_ _|refine zM ?_|refine zK ?_ _));refine blk_far ?_ NB105_118.out _;(with_reducible repeat (first|refine zL ?_ _|refine zM ?_|refine zK ?_ _));exact BK105.out⟩
             have n6_:Aside0 (((w36.setCell ⟨gb118,0,none⟩ (.int .i64 ((rd_T70 ((rd_T68 l0_1 x4_1).f1) x6_2).f0))).setCell ⟨gb118,1,none⟩ (.slice A117_1 ((rd_T70 ((rd_T68 l0_1 x4_1).f1) x6_2).f1).length c117_1)).heap[gb109]? = some (.cells #[.slice Ao8 y106.length co8,u110001] 25 (0,0))):=⟨by (with_reducible repeat (first|refine zL ?_ _|refine zM ?_|refine zK ?_ _));refine blk_far ?_ NB109_118.out _;(with_reducible repeat (first|refine zL ?_ _|refine zM ?_|refine zK ?_ _));refine blk_far ?_ NB109_118.out _;(with_reducible repeat (first|refine zL ?_ _|refine zM ?_|refine zK ?_ _));exact BK109.out⟩
             have n7_:Aside0 (((w36.setCell ⟨gb118,0,none⟩ (.int .i64 ((rd_T70 ((rd_T68 l0_1 x4_1).f1) x6_2).f0))).setCell ⟨gb118,1,none⟩ (.slice A117_1 ((rd_T70 ((rd_T68 l0_1 x4_1).f1) x6_2).f1).length c117_1)).heap[gb114]? = some (.cells #[.slice Ao20 t111.length co20,u115001] 68 (0,0))):=⟨by (with_reducible repeat (first|refine zL ?_ _|refine zM ?_|refine zK ?_ _));refine blk_far ?_ NB114_118.out _;(with_reducible repeat (first|refine zL ?_ _|refine zM ?_|refine zK ?_ _));refine blk_far ?_ NB114_118.out _;(with_reducible repeat (first|refine zL ?_ _|refine zM ?_|refine zK ?_ _));exact BK114.out⟩
             have n8_:Aside0 (((w36.setCell ⟨gb118,0,none⟩ (.int .i64 ((rd_T70 ((rd_T68 l0_1 x4_1).f1) x6_2).f0))).setCell ⟨gb118,1,none⟩ (.slice A117_1 ((rd_T70 ((rd_T68 l0_1 x4_1).f1) x6_2).f1).length c117_1)).heap[gb118]? = some (.cells #[.int .i64 ((rd_T70 ((rd_T68 l0_1 x4_1).f1) x6_2).f0),.slice A117_1 ((rd_T70 ((rd_T68 l0_1 x4_1).f1) x6_2).f1).length c117_1] 70 (0,0))):=⟨by (with_reducible repeat (first|refine zL ?_ _|refine zM ?_|refine zK ?_ _));refine zO (cs:=#[.int .i64 ((rd_T70 ((rd_T68 l0_1 x4_1).f1) x6_2).f0),.slice none 0 0]) ?_ 1 _ rfl;(with_reducible repeat (first|refine zL ?_ _|refine zM ?_|refine zK ?_ _));refine zO (cs:=#[.int .i64 0,.slice none 0 0]) ?_ 0 _ rfl;(with_reducible repeat (first|refine zL ?_ _|refine zM ?_|refine zK ?_ _));exact BK118.out⟩
             have n9_:Aside0 (Below w.heap.size w ((w36.setCell ⟨gb118,0,none⟩ (.int .i64 ((rd_T70 ((rd_T68 l0_1 x4_1).f1) x6_2).f0))).setCell ⟨gb118,1,none⟩ (.slice A117_1 ((rd_T70 ((rd_T68 l0_1 x4_1).f1) x6_2).f1).length c117_1))):=⟨by repeat (first|(with_reducible first|exact HB.out|apply zD|apply zC|apply zE|refine zF ?_ GE104.out|refine zF ?_ GE105.out|refine zF ?_ GE109.out|refine zF ?_ GE114.out|refine zF ?_ GE118.out)|exact HB.out)⟩
             (try clear HO_110000)
             (try clear HO_110001)
             (try clear HO_115000)
             (try clear HO_115001)
             (try clear BK104)
             (try clear BK105)
             (try clear BK109)
             (try clear BK114)
             (try clear BK118)
             (try clear HB)
             generalize ((w36.setCell ⟨gb118,0,none⟩ (.int .i64 ((rd_T70 ((rd_T68 l0_1 x4_1).f1) x6_2).f0))).setCell ⟨gb118,1,none⟩ (.slice A117_1 ((rd_T70 ((rd_T68 l0_1 x4_1).f1) x6_2).f1).length c117_1)) = w42 at n0_ n1_ n2_ n3_ n4_ n5_ n6_ n7_ n8_ n9_ ⊢
             have HO_110000:=n0_
             have HO_110001:=n1_
             have HO_115000:=n2_
             have HO_115001:=n3_
             have BK104:=n4_
             have BK105:=n5_
             have BK109:=n6_
             have BK114:=n7_
             have BK118:=n8_
             have HB:=n9_
             clear n0_ n1_ n2_ n3_ n4_ n5_ n6_ n7_ n8_ n9_
             have n0_:=zA (Kd.R_drew HO_110000.out)
             have n1_:=zA (Kd.R_drew HO_110001.out)
             have n2_:=zA (Kd.R_drew HO_115000.out)
             have n3_:=zA (Kd.S_drew HO_115001.out)
             have n4_:=zA (zM BK104.out)
             have n5_:=zA (zM BK105.out)
             have n6_:=zA (zM BK109.out)
             have n7_:=zA (zM BK114.out)
             have n8_:=zA (zM BK118.out)
             have n9_:=zA (zE HB.out)
             clear HO_110000
             clear HO_110001
             clear HO_115000
             clear HO_115001
             clear BK104
             clear BK105
             clear BK109
             clear BK114
             clear BK118
             clear HB
             have HO_110000:=n0_
             have HO_110001:=n1_
             have HO_115000:=n2_
             have HO_115001:=n3_
             have BK104:=n4_
             have BK105:=n5_
             have BK109:=n6_
             have BK114:=n7_
             have BK118:=n8_
             have HB:=n9_
             clear n0_ n1_ n2_ n3_ n4_ n5_ n6_ n7_ n8_ n9_
             refine start_ (n:=12) (S:=fun w'=>w'.cell? ⟨gb114,0,none⟩ = some (.slice Ao20 t111.length co20)∧w'.cell? ⟨gb114,1,none⟩ = some (u115001)∧w'.cell? ⟨gb118,0,none⟩ = some (.int .i64 ((rd_T70 ((rd_T68 l0_1 x4_1).f1) x6_2).f0))∧w'.cell? ⟨gb118,1,none⟩ = some (.slice A117_1 ((rd_T70 ((rd_T68 l0_1 x4_1).f1) x6_2).f1).length c117_1)) (ds:=[11]) #[false,false,false,false,false,false,false,false,false,false,false,false] (by kernel_rfl) rfl rfl ⟨(zI BK114.out 0).trans rfl,(zI BK114.out 1).trans rfl,(zI BK118.out 0).trans rfl,(zI BK118.out 1).trans rfl⟩ (fun hHeld=>?_);refine with_tabW foretelllaw_models.tab10 foretelllaw_models.bits10 (fun HT_ HW_=>?_)
             generalize w42.drew = w43 at HO_110000 HO_110001 HO_115000 HO_115001 BK104 BK105 BK109 BK114 BK118 HB hHeld ⊢
             refine pure_ (i:=0) (N:=some 47) (v:=?_) (a':=?_) #[true,false,false,false,false,false,false,false,false,false,false,false] rfl rfl (any_of HT_.out (by kernel_rfl)) (fun _ _ _ h=>h) (Or.inl ⟨by rfl,?_⟩) ?_ ?_
             rotate_left
             ·intro w'
              go_simp
              with_reducible rfl
             rotate_left
             ·simp only [Act.put,zX,zY,zZ,i64_w,i32_w]
              rfl
             refine pure_ (i:=2) (N:=some 49) (v:=?_) (a':=?_) #[true,false,true,false,false,false,false,false,false,false,false,false] rfl rfl (any_of HT_.out (by kernel_rfl)) (fun _ _ _ h=>h) (Or.inl ⟨by rfl,?_⟩) ?_ ?_
             rotate_left
             ·intro w'
              go_simp
              with_reducible rfl
             rotate_left
             ·simp only [Act.put,zX,zY,zZ,i64_w,i32_w]
              rfl
             refine pure_ (i:=4) (N:=some 51) (v:=?_) (a':=?_) #[true,false,true,false,true,false,false,false,false,false,false,false] rfl rfl (any_of HT_.out (by kernel_rfl)) (fun _ _ _ h=>h) (Or.inl ⟨by rfl,?_⟩) ?_ ?_
             rotate_left
             ·intro w'
              go_simp
              with_reducible rfl
             rotate_left
             ·simp only [Act.put,zX,zY,zZ,i64_w,i32_w]
              rfl
             refine take_ (i:=1) (N:=some 48) (v:=?_) (a':=?_) #[true,true,true,false,true,false,false,false,false,false,false,false] rfl rfl (take_ofW HT_.out HW_.out (by kernel_rfl)) (fun _ _ _ h=>h) (Or.inl ⟨by rfl,?_⟩) hHeld ?_ ?_
             rotate_left
             ·rintro w' ⟨s0,s1,s2,s3⟩
              go_simp
              with_reducible rfl
             rotate_left
             ·simp only [Act.put,zX,zY,zZ,i64_w,i32_w]
              rfl
             refine take_ (i:=3) (N:=some 50) (v:=?_) (a':=?_) #[true,true,true,true,true,false,false,false,false,false,false,false] rfl rfl (take_ofW HT_.out HW_.out (by kernel_rfl)) (fun _ _ _ h=>h) (Or.inl ⟨by rfl,?_⟩) hHeld ?_ ?_
             rotate_left
             ·rintro w' ⟨s0,s1,s2,s3⟩
              go_simp
              with_reducible rfl
             rotate_left
             ·simp only [Act.put,zX,zY,zZ,i64_w,i32_w]
              rfl
             refine take_ (i:=5) (N:=some 52) (v:=?_) (a':=?_) #[true,true,true,true,true,true,false,false,false,false,false,false] rfl rfl (take_ofW HT_.out HW_.out (by kernel_rfl)) (fun _ _ _ h=>h) (Or.inl ⟨by rfl,?_⟩) hHeld ?_ ?_
             rotate_left
             ·rintro w' ⟨s0,s1,s2,s3⟩
              go_simp
              with_reducible rfl
             rotate_left
             ·simp only [Act.put,zX,zY,zZ,i64_w,i32_w]
              rfl
             refine one_ (i:=6) (N:=some 53) #[true,true,true,true,true,true,true,false,false,false,false,false] rfl rfl (one_of HT_.out (by kernel_rfl)) (by decide) (fun K hK=>?_)
             refine goes_ Tryd.func47 (by kernel_rfl) rfl #[.slice A117_1 ((rd_T70 ((rd_T68 l0_1 x4_1).f1) x6_2).f1).length c117_1] (by rfl) rfl rfl (by (try simp only [zx,zy,zz]);first|done|rfl|(simp only [zd,zt];rfl)) ?_
             with_reducible refine (foretelllaw_ops.calls _ _ ((rd_T70 ((rd_T68 l0_1 x4_1).f1) x6_2).f1) t119 _ ?side1 ?side2 A30.out).mono ?_
             (case side1=>repeat (first|exact (zT HR117_1.out HB.out)|(with_reducible refine Kd.C_alloc ?_ _)|(with_reducible refine Kd.C_drewN ?_ _)|(with_reducible refine Kd.C_drew ?_)))
             (case side2=>exact HC117_1.out)
             rintro e w44 ⟨v120,rfl,ho0,hb⟩
             refine ⟨_,rfl,?_⟩
             have n0_:=zA (Kd.R_below (by (with_reducible repeat (first|apply Kd.R_alloc|apply Kd.R_drewN|apply Kd.R_drew));exact HO_110000.out) hb)
             have n1_:=zA (Kd.R_elder' (by (with_reducible repeat (first|apply Kd.R_alloc|apply Kd.R_drewN|apply Kd.R_drew));exact HO_110001.out) (Kd.R_base ho0) hb)
             have n2_:=zA (Kd.R_elder' (by (with_reducible repeat (first|apply Kd.R_alloc|apply Kd.R_drewN|apply Kd.R_drew));exact HO_115000.out) (Kd.R_base ho0) hb)
             have n3_:=zA (Kd.S_elder' (by (with_reducible repeat (first|apply Kd.S_alloc|apply Kd.S_drewN|apply Kd.S_drew));exact HO_115001.out) (Kd.R_base ho0) hb)
             have n4_:=zA (Kd.R_lower (Kd.R_new' ho0 (Kd.R_lt (by (with_reducible repeat (first|apply Kd.R_alloc|apply Kd.R_drewN|apply Kd.R_drew));exact HO_115000.out))) (zG (by repeat (first|(with_reducible first|exact HB.out|apply zD|apply zC|apply zE|refine zF ?_ GE104.out|refine zF ?_ GE105.out|refine zF ?_ GE109.out|refine zF ?_ GE114.out|refine zF ?_ GE118.out)|exact HB.out))))
             have n5_:=zA (zN (g:=gb104) (o:=.cells #[.slice A0_0 l0_0.length c0_0,.slice (some ad110) l0_1.length c0_1] 25 (0,0)) (by (with_reducible repeat (first|refine zL ?_ _|refine zM ?_|refine zK ?_ _));exact BK104.out) hb)
             have n6_:=zA (zN (g:=gb105) (o:=.cells #[.slice none 0 0,.slice none 0 0] 25 (0,0)) (by (with_reducible repeat (first|refine zL ?_ _|refine zM ?_|refine zK ?_ _));exact BK105.out) hb)
             have n7_:=zA (zN (g:=gb109) (o:=.cells #[.slice Ao8 y106.length co8,u110001] 25 (0,0)) (by (with_reducible repeat (first|refine zL ?_ _|refine zM ?_|refine zK ?_ _));exact BK109.out) hb)
             have n8_:=zA (zN (g:=gb114) (o:=.cells #[.slice Ao20 t111.length co20,u115001] 68 (0,0)) (by (with_reducible repeat (first|refine zL ?_ _|refine zM ?_|refine zK ?_ _));exact BK114.out) hb)
             have n9_:=zA (zN (g:=gb118) (o:=.cells #[.int .i64 ((rd_T70 ((rd_T68 l0_1 x4_1).f1) x6_2).f0),.slice A117_1 ((rd_T70 ((rd_T68 l0_1 x4_1).f1) x6_2).f1).length c117_1] 70 (0,0)) (by (with_reducible repeat (first|refine zL ?_ _|refine zM ?_|refine zK ?_ _));exact BK118.out) hb)
             have n10_:=zA (zH (by repeat (first|(with_reducible first|exact HB.out|apply zD|apply zC|apply zE|refine zF ?_ GE104.out|refine zF ?_ GE105.out|refine zF ?_ GE109.out|refine zF ?_ GE114.out|refine zF ?_ GE118.out)|exact HB.out)) hb)
             clear HO_110000
             clear HO_110001
             clear HO_115000
             clear HO_115001
             clear BK104
             clear BK105
             clear BK109
             clear BK114
             clear BK118
             clear HB
             have HO_110000:=n0_
             have HO_110001:=n1_
             have HO_115000:=n2_
             have HO_115001:=n3_
             have HO121:=n4_
             have BK104:=n5_
             have BK105:=n6_
             have BK109:=n7_
             have BK114:=n8_
             have BK118:=n9_
             have HB:=n10_
             clear n0_ n1_ n2_ n3_ n4_ n5_ n6_ n7_ n8_ n9_ n10_
             (try clear hb)
             (try clear hb2)
             (try clear hk)
             (try clear hi)
             (try clear ho0)
             obtain ⟨Ao45,co45,eo45⟩:=Kd.R_slice HO121.out
             (first|subst eo45|(injection eo45 with f1_ f2_ f3_;have f4_:=f1_.symm;have f5_:=f3_.symm;clear f1_ f2_ f3_;subst f4_;subst f5_))
             refine hK.out _ _ ⟨(zI BK114.out 0).trans rfl,(zI BK114.out 1).trans rfl,(zI BK118.out 0).trans rfl,(zI BK118.out 1).trans rfl⟩ (fun hHeld=>?_)
             clear hK K
             refine norm_ (a':=?_) ?_ ?_
             rotate_left
             ·show Act.put _ (some 53) _ = _
              simp only [Act.put,zX,zY,zZ,i64_w,i32_w]
              rfl
             refine pure_ (i:=7) (N:=some 54) (v:=?_) (a':=?_) #[true,true,true,true,true,true,true,true,false,false,false,false] rfl rfl (any_of HT_.out (by kernel_rfl)) (fun _ _ _ h=>h) (Or.inl ⟨by rfl,?_⟩) ?_ ?_
             rotate_left
             ·intro w'
              go_simp
              with_reducible rfl
             rotate_left
             ·simp only [Act.put,zX,zY,zZ,i64_w,i32_w]
              rfl
             refine one_ (i:=8) (N:=some 55) #[true,true,true,true,true,true,true,true,true,false,false,false] rfl rfl (one_of HT_.out (by kernel_rfl)) (by decide) (fun K hK=>?_)
             refine value_ (w1:=?_) (v:=?_) (by rfl) rfl ?_ ?_
             rotate_left 2
             ·go_simp
              constructor
              ·rfl
              ·rfl
             refine hK.out _ _ ⟨(zI (zK BK114.out _) 0).trans rfl,(zI (zK BK114.out _) 1).trans rfl,(zI (zK BK118.out _) 0).trans rfl,(zI (zK BK118.out _) 1).trans rfl⟩ (fun hHeld=>?_)
             clear hK K
             refine norm_ (a':=?_) ?_ ?_
             rotate_left
             ·show Act.put _ (some 55) _ = _
              simp only [Act.put,zX,zY,zZ,i64_w,i32_w]
              rfl
             refine one_ (i:=9) (N:=some 56) #[true,true,true,true,true,true,true,true,true,true,false,false] rfl rfl (one_of HT_.out (by kernel_rfl)) (by decide) (fun K hK=>?_)
             refine Kd.S_append_step k70 (w0:=w) w.heap.size (by rfl) (.tmp 48) (.tmp 55) 66 70 (.agg #[(.int .i64 0),(.slice none 0 0)]) 32 rfl Tryd.underlying66 info70 rfl (by decide) (by omega) u115001 x115001_2 (⟨(rd_T70 ((rd_T68 l0_1 x4_1).f1) x6_2).f0,t119⟩:S70) [.int .i64 ((rd_T70 ((rd_T68 l0_1 x4_1).f1) x6_2).f0),.slice Ao45 t119.length co45] (fun k_=>some k_ ≠ (.slice Ao20 t111.length co20:Value).ownBlock∧k_ ≠ gb118) (fun k_=>some k_ = (.slice Ao45 t119.length co45:Value).ownBlock) rfl rfl ?aP (fun k_ hk_=>((Kd.R_mono (ok':=fun k_=>((fun k_=>some k_ ≠ (.slice Ao20 t111.length co20:Value).ownBlock∧k_ ≠ gb118)) k_∧some k_ ≠ (u115001:Value).ownBlock) (Kd.R_types (Kd.R_apart' (HO121.out) (Kd.S_typed HO_115001.out) (by decide)) BK118.out (by decide)) (fun k_ hk=>⟨⟨hk.1.1.2,hk.2⟩,hk.1.2⟩))).1 k_ hk_.symm) ?aF ?aO ?aB ?aS ?aL ?_
             (case aP=>exact k70_mkM _ _ _ (⟨(rd_T70 ((rd_T68 l0_1 x4_1).f1) x6_2).f0,t119⟩:S70) (Kd.R_mono (Kd.R_tight rfl (Kd.R_mono (ok':=fun k_=>((fun k_=>some k_ ≠ (.slice Ao20 t111.length co20:Value).ownBlock∧k_ ≠ gb118)) k_∧some k_ ≠ (u115001:Value).ownBlock) (Kd.R_types (Kd.R_apart' (HO121.out) (Kd.S_typed HO_115001.out) (by decide)) BK118.out (by decide)) (fun k_ hk=>⟨⟨hk.1.1.2,hk.2⟩,hk.1.2⟩))) (fun _ h_=>h_)))
             (case aB=>exact (by repeat (first|(with_reducible first|exact HB.out|apply zD|apply zC|apply zE|refine zF ?_ GE104.out|refine zF ?_ GE105.out|refine zF ?_ GE109.out|refine zF ?_ GE114.out|refine zF ?_ GE118.out)|exact HB.out)))
             (case aF=>exact (fun k_ hk=>⟨Kd.fresh' (Kd.R_lt (by (with_reducible repeat (first|apply Kd.R_alloc|apply Kd.R_drewN|apply Kd.R_drew));exact HO_115000.out)) k_ hk,Kd.freshB (g:=gb118) (o:=.cells #[.int .i64 ((rd_T70 ((rd_T68 l0_1 x4_1).f1) x6_2).f0),.slice A117_1 ((rd_T70 ((rd_T68 l0_1 x4_1).f1) x6_2).f1).length c117_1] 70 (0,0)) (by (with_reducible repeat (first|refine zL ?_ _|refine zM ?_|refine zK ?_ _));exact BK118.out) k_ hk⟩))
             (case aO=>exact (by (with_reducible repeat (first|apply Kd.S_alloc|apply Kd.S_drewN|apply Kd.S_drew));exact Kd.S_mono HO_115001.out (fun k_ hk=>⟨⟨hk.1.1,hk.1.2⟩,fun e_=>hk.2 e_⟩)))
             (case aS=>exact (zG (by repeat (first|(with_reducible first|exact HB.out|apply zD|apply zC|apply zE|refine zF ?_ GE104.out|refine zF ?_ GE105.out|refine zF ?_ GE109.out|refine zF ?_ GE114.out|refine zF ?_ GE118.out)|exact HB.out))))
             (case aL=>have:=LMc31.out;omega)
             intro v123 w46 ho hb hg hat
             rw [← Ny122.out] at ho
             have n0_:=zA (Kd.R_over' (by (with_reducible repeat (first|apply Kd.R_alloc|apply Kd.R_drewN|apply Kd.R_drew));exact HO_110000.out) (Kd.S_typed (by (with_reducible repeat (first|apply Kd.S_alloc|apply Kd.S_drewN|apply Kd.S_drew));exact HO_115001.out)) (by decide) hg)
             have n1_:=zA (Kd.R_after (ok:=(fun k_=>some k_ ≠ (.slice Ao20 t111.length co20:Value).ownBlock∧some k_ ≠ (.slice Ao45 t119.length co45:Value).ownBlock∧k_ ≠ gb114∧k_ ≠ gb118)) (by (with_reducible repeat (first|apply Kd.R_alloc|apply Kd.R_drewN|apply Kd.R_drew));exact Kd.R_mono HO_110001.out (fun _ hk=>⟨⟨hk.1.1,⟨hk.2,⟨hk.1.2.2.1,hk.1.2.2.2⟩⟩⟩,hk.1.2.1⟩)) hg hat)
             have n2_:=zA (Kd.R_over' (by (with_reducible repeat (first|apply Kd.R_alloc|apply Kd.R_drewN|apply Kd.R_drew));exact HO_115000.out) (Kd.S_typed (by (with_reducible repeat (first|apply Kd.S_alloc|apply Kd.S_drewN|apply Kd.S_drew));exact HO_115001.out)) (by decide) hg)
             have n3_:=zA (blk_grown (g:=gb104) (o:=.cells #[.slice A0_0 l0_0.length c0_0,.slice (some ad110) l0_1.length c0_1] 25 (0,0)) (by (with_reducible repeat (first|refine zL ?_ _|refine zM ?_|refine zK ?_ _));exact BK104.out) hg (Kd.S_ne HO_115001.out BK104.out (by decide)))
             have n4_:=zA (blk_grown (g:=gb105) (o:=.cells #[.slice none 0 0,.slice none 0 0] 25 (0,0)) (by (with_reducible repeat (first|refine zL ?_ _|refine zM ?_|refine zK ?_ _));exact BK105.out) hg (Kd.S_ne HO_115001.out BK105.out (by decide)))
             have n5_:=zA (blk_grown (g:=gb109) (o:=.cells #[.slice Ao8 y106.length co8,u110001] 25 (0,0)) (by (with_reducible repeat (first|refine zL ?_ _|refine zM ?_|refine zK ?_ _));exact BK109.out) hg (Kd.S_ne HO_115001.out BK109.out (by decide)))
             have n6_:=zA (blk_grown (g:=gb114) (o:=.cells #[.slice Ao20 t111.length co20,u115001] 68 (0,0)) (by (with_reducible repeat (first|refine zL ?_ _|refine zM ?_|refine zK ?_ _));exact BK114.out) hg (Kd.S_ne HO_115001.out BK114.out (by decide)))
             have n7_:=zA (blk_grown (g:=gb118) (o:=.cells #[.int .i64 ((rd_T70 ((rd_T68 l0_1 x4_1).f1) x6_2).f0),.slice A117_1 ((rd_T70 ((rd_T68 l0_1 x4_1).f1) x6_2).f1).length c117_1] 70 (0,0)) (by (with_reducible repeat (first|refine zL ?_ _|refine zM ?_|refine zK ?_ _));exact BK118.out) hg (Kd.S_away HO_115001.out (fun _ hk=>hk.1.2)))
             have n8_:=zA (hb)
             have n9_:=zA (ho)
             clear HO_110000
             clear HO_110001
             clear HO_115000
             clear BK104
             clear BK105
             clear BK109
             clear BK114
             clear BK118
             clear HB
             clear HO_115001
             clear HO121
             have HO_110000:=n0_
             have HO_110001:=n1_
             have HO_115000:=n2_
             have BK104:=n3_
             have BK105:=n4_
             have BK109:=n5_
             have BK114:=n6_
             have BK118:=n7_
             have HB:=n8_
             have HO124:=n9_
             clear n0_ n1_ n2_ n3_ n4_ n5_ n6_ n7_ n8_ n9_
             clear ho hb hg hat
             obtain ⟨Ao47,co47,eo47⟩:=Kd.S_slice HO124.out
             (first|subst eo47|(injection eo47 with f1_ f2_ f3_;have f4_:=f1_.symm;have f5_:=f3_.symm;clear f1_ f2_ f3_;subst f4_;subst f5_))
             refine hK.out _ _ ⟨(zI BK114.out 0).trans rfl,(zI BK114.out 1).trans rfl,(zI BK118.out 0).trans rfl,(zI BK118.out 1).trans rfl⟩ (fun hHeld=>?_)
             clear hK K
             refine norm_ (a':=?_) ?_ ?_
             rotate_left
             ·show Act.put _ (some 56) _ = _
              simp only [Act.put,zX,zY,zZ,i64_w,i32_w]
              rfl
             refine pure_ (i:=10) (N:=some 57) (v:=?_) (a':=?_) #[true,true,true,true,true,true,true,true,true,true,true,false] rfl rfl (any_of HT_.out (by kernel_rfl)) (fun _ _ _ h=>h) (Or.inl ⟨by rfl,?_⟩) ?_ ?_
             rotate_left
             ·intro w'
              go_simp
              with_reducible rfl
             rotate_left
             ·simp only [Act.put,zX,zY,zZ,i64_w,i32_w]
              rfl
             refine last_ (i:=11) (N:=none) #[true,true,true,true,true,true,true,true,true,true,true,true] rfl rfl (one_of HT_.out (by kernel_rfl)) (by decide) (fun K hK=>?_)
             have hs48:w46.cell? ⟨gb114,1,none⟩ = some (u115001):=(zI BK114.out 1).trans rfl
             have hfs48:=zJ BK114.out 1
             have hns48_0:=NB104_114.out
             have hns48_1:=NB105_114.out
             have hns48_2:=NB109_114.out
             have hns48_4:=NB118_114.out
             have hms48_0:=NB114_104.out
             have hms48_1:=NB114_105.out
             have hms48_2:=NB114_109.out
             have hms48_4:=NB114_118.out
             refine skip_ (w1:=?_) (by rfl) rfl ?_ ?_
             rotate_left
             ·go_simp
              rfl
             refine hK.out _ _ ?_
             clear hK K
             refine done_ (done_of HT_.out (by kernel_rfl)) ?_
             try go_wp2
             go_roundg k2
             case measure=>have:=HK1.out;have:=HK2.out;omega
             case rel=>exact ⟨(wrap64 (x6_2 + 1)),(y122),(.slice Ao47 y122.length co47),(by first|rfl|(simp;done)|(simp [*];done)),H',⟨by have:=HK1.out;have:=HK2.out;omega⟩,⟨by (with_reducible repeat (first|apply Kd.R_alloc|apply Kd.R_drewN|apply Kd.R_drew));exact Kd.R_mono (Kd.R_far (p:=⟨gb114,1,none⟩) (Kd.R_types HO_110000.out BK114.out (by decide)) (fun _ hk=>hk.2) (.slice Ao47 y122.length co47)) (fun _ hk=>trivial)⟩,⟨by (with_reducible repeat (first|apply Kd.R_alloc|apply Kd.R_drewN|apply Kd.R_drew));exact Kd.R_mono (Kd.R_far (p:=⟨gb114,1,none⟩) (Kd.R_mono HO_110001.out (fun k_ hk=>(⟨hk,hk.1.2.2.1⟩:_∧k_ ≠ gb114))) (fun _ hk=>hk.2) (.slice Ao47 y122.length co47)) (fun _ hk=>⟨hk.1.1.1,⟨hk.1.2,hk.1.1.2.2.1⟩⟩)⟩,⟨by (with_reducible repeat (first|apply Kd.R_alloc|apply Kd.R_drewN|apply Kd.R_drew));exact Kd.R_mono (Kd.R_far (p:=⟨gb114,1,none⟩) (Kd.R_types HO_115000.out BK114.out (by decide)) (fun _ hk=>hk.2) (.slice Ao47 y122.length co47)) (fun _ hk=>trivial)⟩,⟨by (with_reducible repeat (first|apply Kd.S_alloc|apply Kd.S_drewN|apply Kd.S_drew));exact Kd.S_mono (Kd.S_far (p:=⟨gb114,1,none⟩) (Kd.S_types HO124.out BK114.out (by decide)) (fun _ hk=>hk.2) (.slice Ao47 y122.length co47)) (fun _ hk=>hk.1.1)⟩,⟨by (with_reducible repeat (first|refine zL ?_ _|refine zM ?_|refine zK ?_ _));refine blk_far ?_ NB104_114.out _;(with_reducible repeat (first|refine zL ?_ _|refine zM ?_|refine zK ?_ _));exact BK104.out⟩,⟨by (with_reducible repeat (first|refine zL ?_ _|refine zM ?_|refine zK ?_ _));refine blk_far ?_ NB105_114.out _;(with_reducible repeat (first|refine zL ?_ _|refine zM ?_|refine zK ?_ _));exact BK105.out⟩,⟨by (with_reducible repeat (first|refine zL ?_ _|refine zM ?_|refine zK ?_ _));refine blk_far ?_ NB109_114.out _;(with_reducible repeat (first|refine zL ?_ _|refine zM ?_|refine zK ?_ _));exact BK109.out⟩,⟨by (with_reducible repeat (first|refine zL ?_ _|refine zM ?_|refine zK ?_ _));refine zO (cs:=#[.slice Ao20 t111.length co20,u115001]) ?_ 1 _ rfl;(with_reducible repeat (first|refine zL ?_ _|refine zM ?_|refine zK ?_ _));exact BK114.out⟩,⟨by repeat (first|(with_reducible first|exact HB.out|apply zD|apply zC|apply zE|refine zF ?_ GE104.out|refine zF ?_ GE105.out|refine zF ?_ GE109.out|refine zF ?_ GE114.out|refine zF ?_ GE118.out)|exact HB.out)⟩⟩
            ·rw [if_neg c31] at H
             exact absurd H (by simp)
           ·rw [if_neg c29] at H
            exact absurd H (by simp)
          ·rw [if_neg c28] at H
           have c28b0:decide (x6_2 < (((rd_T68 l0_1 x4_1).f1).length:Int)) = false:=zR c28
           clear c28
           by_cases c49:x110001_1.length < 2932031007402
           ·rw [if_pos c49] at H
            have LMc49:=zA c49
            clear c49
            obtain ⟨y125,hy125⟩:∃ y_:List (S68),y_ = (x110001_1 ++ [(⟨t111,x115001_2⟩:S68)]):=⟨_,rfl⟩
            replace H:(foretelllaw_models.l0 k2 (wrap64 (x4_1 + 1)) l0_0 l0_1 y106 y125) = some (r1,r2):=by first|(rw [hy125];with_reducible exact H)|(have H2_:=(Option.bind_some _ _).symm.trans H;rw [hy125];with_reducible exact H2_)|(have H2_:=(Option.bind_some _ _).symm.trans H;with_reducible exact H2_)|with_reducible exact H|(rw [hy125];exact H)|exact H
            have Ny125:=zA hy125
            clear hy125
            have H':=zA H
            clear H
            have hnb50:=NB104_105.out
            have hnc50:=NB105_104.out
            have hnb51:=NB104_109.out
            have hnc51:=NB109_104.out
            have hnb52:=NB104_114.out
            have hnc52:=NB114_104.out
            have hcz53_0:wr.cell? ⟨gb104,0,none⟩ = some (.slice A0_0 l0_0.length c0_0):=(zI BK104.out 0).trans rfl
            have hcz53_1:wr.cell? ⟨gb104,1,none⟩ = some (.slice (some ad110) l0_1.length c0_1):=(zI BK104.out 1).trans rfl
            have hfz53_0:=zJ BK104.out 0
            have hfz53_1:=zJ BK104.out 1
            have p115:0 ≤ (x4_1:Int):=zP (by assumption)
            have q115:x4_1 < (l0_1.length:Int):=zP (by assumption)
            obtain ⟨ad115,A115_0,c115_0,A115_1,c115_1,e115,hx115_0,hx115_1,hl115_0,hi115_0,hl115_1,hi115_1⟩:=at_T68 HR0_1.out x4_1 p115 q115
            obtain rfl:ad110 = ad115:=(by injection e115)
            replace hx115_0:=(HB.out.cell (zB w _ hx115_0)).trans hx115_0
            replace hx115_1:=(HB.out.cell (zB w _ hx115_1)).trans hx115_1
            have HR115_0:=zA hi115_0
            have HC115_0:=zA hl115_0
            clear hi115_0 hl115_0
            have HR115_1:=zA hi115_1
            have HC115_1:=zA hl115_1
            clear hi115_1 hl115_1
            replace p115:=eq_true p115
            replace q115:=eq_true q115
            have hnb54:=NB109_105.out
            have hnc54:=NB105_109.out
            have hnb55:=NB109_114.out
            have hnc55:=NB114_109.out
            have hcz56_0:wr.cell? ⟨gb109,0,none⟩ = some (.slice Ao8 y106.length co8):=(zI BK109.out 0).trans rfl
            have hcz56_1:wr.cell? ⟨gb109,1,none⟩ = some (u110001):=(zI BK109.out 1).trans rfl
            have hfz56_0:=zJ BK109.out 0
            have hfz56_1:=zJ BK109.out 1
            have hnb57:=NB114_105.out
            have hnc57:=NB105_114.out
            have hcz58_0:wr.cell? ⟨gb114,0,none⟩ = some (.slice Ao20 t111.length co20):=(zI BK114.out 0).trans rfl
            have hcz58_1:wr.cell? ⟨gb114,1,none⟩ = some (u115001):=(zI BK114.out 1).trans rfl
            have hfz58_0:=zJ BK114.out 0
            have hfz58_1:=zJ BK114.out 1
            obtain ⟨Ao60,co60,eo60⟩:=Kd.S_slice HO_115001.out
            subst eo60
            go_wp2_with (first|((with_reducible refine gate_builtin (b:=.append) (xs:=#[.tmp 59,.tmp 61]) rfl ?_);at_builtin;refine Kd.R_append k68 (w0:=w) w.heap.size rfl (.tmp 59) (.tmp 61) 23 68 (.agg #[(.slice none 0 0),(.slice none 0 0)]) 48 rfl Tryd.underlying23 info68 rfl (by decide) (by omega) u110001 x110001_1 (⟨t111,x115001_2⟩:S68) [.slice Ao20 t111.length co20,.slice Ao60 x115001_2.length co60] (fun k_=>k_ ≠ gb114) (fun k_=>((fun k_=>k_ ≠ gb114)) k_∧some k_ ≠ (u110001:Value).ownBlock) rfl rfl ?aP (fun _ hk=>hk) ?aF ?aO ?aB ?aS ?aL ?_;(case aP=>exact k68_mkM _ _ _ (⟨t111,x115001_2⟩:S68) (Kd.R_mono (Kd.R_types (Kd.R_apart' (HO_115000.out) (Kd.R_typed HO_110001.out) (by decide)) BK114.out (by decide)) (fun k_ hk=>⟨hk.2,hk.1.2⟩)) (Kd.R_mono (Kd.R_types (Kd.R_apart' ((Kd.S_R HO_115001.out)) (Kd.R_typed HO_110001.out) (by decide)) BK114.out (by decide)) (fun k_ hk=>⟨hk.2,hk.1.2⟩)));(case aB=>exact (by repeat (first|(with_reducible first|exact HB.out|apply zD|apply zC|apply zE|refine zF ?_ GE104.out|refine zF ?_ GE105.out|refine zF ?_ GE109.out|refine zF ?_ GE114.out)|exact HB.out)));(case aF=>exact (fun k_ hk=>Kd.freshB (g:=gb114) (o:=.cells #[.slice Ao20 t111.length co20,.slice Ao60 x115001_2.length co60] 68 (0,0)) (by (with_reducible repeat (first|refine zL ?_ _|refine zM ?_|refine zK ?_ _));exact BK114.out) k_ hk));(case aO=>exact (by (with_reducible repeat (first|apply Kd.R_alloc|apply Kd.R_drewN|apply Kd.R_drew));exact Kd.R_mono HO_110001.out (fun _ hk=>hk.2.2)));(case aS=>exact (zG (by repeat (first|(with_reducible first|exact HB.out|apply zD|apply zC|apply zE|refine zF ?_ GE104.out|refine zF ?_ GE105.out|refine zF ?_ GE109.out|refine zF ?_ GE114.out)|exact HB.out))));(case aL=>have:=LMc49.out;omega);intro v126 w59 ho hb hg hat;rw [← Ny125.out] at ho;have n0_:=zA (Kd.R_over' (by (with_reducible repeat (first|apply Kd.R_alloc|apply Kd.R_drewN|apply Kd.R_drew));exact HO_110000.out) (Kd.R_typed (by (with_reducible repeat (first|apply Kd.R_alloc|apply Kd.R_drewN|apply Kd.R_drew));exact HO_110001.out)) (by decide) hg);have n1_:=zA (blk_grown (g:=gb104) (o:=.cells #[.slice A0_0 l0_0.length c0_0,.slice (some ad110) l0_1.length c0_1] 25 (0,0)) (by (with_reducible repeat (first|refine zL ?_ _|refine zM ?_|refine zK ?_ _));exact BK104.out) hg (Kd.R_ne HO_110001.out BK104.out (by decide)));have n2_:=zA (blk_grown (g:=gb105) (o:=.cells #[.slice none 0 0,.slice none 0 0] 25 (0,0)) (by (with_reducible repeat (first|refine zL ?_ _|refine zM ?_|refine zK ?_ _));exact BK105.out) hg (Kd.R_ne HO_110001.out BK105.out (by decide)));have n3_:=zA (blk_grown (g:=gb109) (o:=.cells #[.slice Ao8 y106.length co8,u110001] 25 (0,0)) (by (with_reducible repeat (first|refine zL ?_ _|refine zM ?_|refine zK ?_ _));exact BK109.out) hg (Kd.R_ne HO_110001.out BK109.out (by decide)));have n4_:=zA (blk_grown (g:=gb114) (o:=.cells #[.slice Ao20 t111.length co20,.slice Ao60 x115001_2.length co60] 68 (0,0)) (by (with_reducible repeat (first|refine zL ?_ _|refine zM ?_|refine zK ?_ _));exact BK114.out) hg (Kd.R_away HO_110001.out (fun _ hk=>hk.2.2)));have n5_:=zA (hb);have n6_:=zA (ho);clear HO_110000;clear BK104;clear BK105;clear BK109;clear BK114;clear HB;clear HO_110001;clear HO_115000;clear HO_115001;have HO_110000:=n0_;have BK104:=n1_;have BK105:=n2_;have BK109:=n3_;have BK114:=n4_;have HB:=n5_;have HO127:=n6_;clear n0_ n1_ n2_ n3_ n4_ n5_ n6_;clear ho hb hg hat;obtain ⟨Ao61,co61,eo61⟩:=Kd.R_slice HO127.out;subst eo61;have hcz62_0:w59.cell? ⟨gb109,0,none⟩ = some (.slice Ao8 y106.length co8):=(zI BK109.out 0).trans rfl;have hcz62_1:w59.cell? ⟨gb109,1,none⟩ = some (u110001):=(zI BK109.out 1).trans rfl;have hfz62_0:=zJ BK109.out 0;have hfz62_1:=zJ BK109.out 1))
            go_roundg k2
            case measure=>have:=HK1.out;have:=HK2.out;omega
            case rel=>exact ⟨(wrap64 (x4_1 + 1)),(y125),(.slice Ao61 y125.length co61),(by first|rfl|(simp;done)|(simp [*];done)),H',⟨by have:=HK1.out;have:=HK2.out;omega⟩,⟨by (with_reducible repeat (first|apply Kd.R_alloc|apply Kd.R_drewN|apply Kd.R_drew));exact Kd.R_mono (Kd.R_far (p:=⟨gb109,1,none⟩) (Kd.R_types HO_110000.out BK109.out (by decide)) (fun _ hk=>hk.2) (.slice Ao61 y125.length co61)) (fun _ hk=>trivial)⟩,⟨by (with_reducible repeat (first|apply Kd.R_alloc|apply Kd.R_drewN|apply Kd.R_drew));exact Kd.R_mono (Kd.R_far (p:=⟨gb109,1,none⟩) (Kd.R_types HO127.out BK109.out (by decide)) (fun _ hk=>hk.2) (.slice Ao61 y125.length co61)) (fun _ hk=>trivial)⟩,⟨by (with_reducible repeat (first|refine zL ?_ _|refine zM ?_|refine zK ?_ _));refine blk_far ?_ NB104_109.out _;(with_reducible repeat (first|refine zL ?_ _|refine zM ?_|refine zK ?_ _));exact BK104.out⟩,⟨by (with_reducible repeat (first|refine zL ?_ _|refine zM ?_|refine zK ?_ _));refine blk_far ?_ NB105_109.out _;(with_reducible repeat (first|refine zL ?_ _|refine zM ?_|refine zK ?_ _));exact BK105.out⟩,⟨by (with_reducible repeat (first|refine zL ?_ _|refine zM ?_|refine zK ?_ _));refine zO (cs:=#[.slice Ao8 y106.length co8,u110001]) ?_ 1 _ rfl;(with_reducible repeat (first|refine zL ?_ _|refine zM ?_|refine zK ?_ _));exact BK109.out⟩,⟨by repeat (first|(with_reducible first|exact HB.out|apply zD|apply zC|apply zE|refine zF ?_ GE104.out|refine zF ?_ GE105.out|refine zF ?_ GE109.out|refine zF ?_ GE114.out)|exact HB.out)⟩⟩
           ·rw [if_neg c49] at H
            exact absurd H (by simp)
         ·rw [if_neg c27] at H
          exact absurd H (by simp)
        ·rw [if_neg c26] at H
         exact absurd H (by simp)
     ·rw [if_neg c14] at H
      exact absurd H (by simp)
    ·rw [if_neg c13] at H
     have c13b0:decide (x4_1 < (l0_1.length:Int)) = false:=zR c13
     clear c13
     simp only [Option.some.injEq,Prod.mk.injEq] at H
     obtain ⟨rfl,rfl⟩:=H
     have hnb63:=NB104_105.out
     have hnc63:=NB105_104.out
     have hnb64:=NB104_109.out
     have hnc64:=NB109_104.out
     have hcz65_0:wr.cell? ⟨gb104,0,none⟩ = some (.slice A0_0 l0_0.length c0_0):=(zI BK104.out 0).trans rfl
     have hcz65_1:wr.cell? ⟨gb104,1,none⟩ = some (.slice A0_1 l0_1.length c0_1):=(zI BK104.out 1).trans rfl
     have hfz65_0:=zJ BK104.out 0
     have hfz65_1:=zJ BK104.out 1
     have hnb66:=NB109_105.out
     have hnc66:=NB105_109.out
     have hcz67_0:wr.cell? ⟨gb109,0,none⟩ = some (.slice Ao8 y106.length co8):=(zI BK109.out 0).trans rfl
     have hcz67_1:wr.cell? ⟨gb109,1,none⟩ = some (u110001):=(zI BK109.out 1).trans rfl
     have hfz67_0:=zJ BK109.out 0
     have hfz67_1:=zJ BK109.out 1
     have hcz68_0:wr.cell? ⟨gb105,0,none⟩ = some (.slice none 0 0):=(zI BK105.out 0).trans rfl
     have hcz68_1:wr.cell? ⟨gb105,1,none⟩ = some (.slice none 0 0):=(zI BK105.out 1).trans rfl
     have hfz68_0:=zJ BK105.out 0
     have hfz68_1:=zJ BK105.out 1
     obtain ⟨Ao69,co69,eo69⟩:=Kd.R_slice HO_110001.out
     subst eo69
     go_wp2
     refine bodyPost_ret (results_cell_row rfl _ _ gb105 25 #[.slice Ao8 y106.length co8,.slice Ao69 x110001_1.length co69] (0,0) _ rfl (by (with_reducible repeat (first|refine zL ?_ _|refine zM ?_|refine zK ?_ _));refine zO (cs:=#[.slice Ao8 y106.length co8,.slice none 0 0]) ?_ 1 _ rfl;(with_reducible repeat (first|refine zL ?_ _|refine zM ?_|refine zK ?_ _));refine zO (cs:=#[.slice none 0 0,.slice none 0 0]) ?_ 0 _ rfl;(with_reducible repeat (first|refine zL ?_ _|refine zM ?_|refine zK ?_ _));exact BK105.out) Tryd.underlying25 rfl (by kernel_rfl)) rfl ?_
     exact ⟨_,_,by first|rfl|(simp [errW_none,errW_some] <;> rfl)|(simp [*,errW_none,errW_some] <;> rfl),by (with_reducible repeat (first|apply Kd.R_alloc|apply Kd.R_drewN|apply Kd.R_drew));exact Kd.R_mono (Kd.R_far (p:=⟨gb105,1,none⟩) (Kd.R_far (p:=⟨gb105,0,none⟩) (Kd.R_types HO_110000.out BK105.out (by decide)) (fun _ hk=>hk.2) (.slice Ao8 y106.length co8)) (fun _ hk=>hk.2) (.slice Ao69 x110001_1.length co69)) (fun _ hk=>trivial),by (with_reducible repeat (first|apply Kd.R_alloc|apply Kd.R_drewN|apply Kd.R_drew));exact Kd.R_mono (Kd.R_far (p:=⟨gb105,1,none⟩) (Kd.R_far (p:=⟨gb105,0,none⟩) (Kd.R_types HO_110001.out BK105.out (by decide)) (fun _ hk=>hk.2) (.slice Ao8 y106.length co8)) (fun _ hk=>hk.2) (.slice Ao69 x110001_1.length co69)) (fun _ hk=>trivial),by repeat (first|(with_reducible first|exact HB.out|apply zD|apply zC|apply zE|refine zF ?_ GE104.out|refine zF ?_ GE105.out|refine zF ?_ GE109.out)|exact HB.out)⟩
 ·rw [if_neg c2] at H
  exact absurd H (by simp)
section
open Go.Proofs.YtkpddelnkjjflaaDoor.Hand
def nameAt (l:List UInt8) (i:Nat):Bool:=if ((l.getD i 0).toNat < 97 ∨ 122 < (l.getD i 0).toNat)∧((l.getD i 0).toNat < 48 ∨ 57 < (l.getD i 0).toNat ∨ i = 0) then false else true
def nameB (s:ByteArray):Bool:=if s.size = 0 ∨ 8 < s.size ∨ s.toList = [121,101,115] ∨ s.toList = [110,111] then false else (List.range s.size).all (nameAt s.data.toList)
def model_name.f (a0:ByteArray):Option Bool:=some (nameB a0)
theorem bytesWorld_below (w:World) (e:TypeId) (s:ByteArray):Below w.heap.size w (Lib.bytesWorld w e s) :=
 ⟨rfl,rfl,rfl,by rw [Lib.bytesWorld_size];omega,fun k hk=>Lib.bytesWorld_at_old w e s k hk⟩
set_option maxHeartbeats 1000000 in
set_option maxRecDepth 100000 in
theorem model_name.calls (a0:ByteArray) (r:Bool) (w:World) (h:model_name.f a0 = some r) :
  Calls Tryd.prog 67 #[.string a0] w fun e w'=>e = .returned (.bool r)∧Below w.heap.size w w':=by
 have h:=Option.some.inj h
 unfold nameB at h
 have hsz:a0.toList.length = a0.size:=by rw [ByteArray.toList_eq];simp
 by_cases g1:a0.size = 0
 ·have q1:a0.toList.isEmpty = true:=by rw [List.isEmpty_iff_length_eq_zero,hsz];exact g1
  rw [if_pos (.inl g1)] at h
  subst h
  clear hsz g1
  go_enter Tryd.func67,Tryd.ntmps67
  go_wp2
  go_ret
  exact ⟨rfl,Below.refl _ _⟩
 have q1:a0.toList.isEmpty = false:=by rw [Bool.eq_false_iff];intro hc;rw [List.isEmpty_iff_length_eq_zero,hsz] at hc;exact g1 hc
 clear hsz
 by_cases g2:8 < a0.size
 ·have q2:decide ((a0.size:Int) > 8) = true:=zQ (by omega)
  rw [if_pos (.inr (.inl g2))] at h
  subst h
  clear g1
  go_enter Tryd.func67,Tryd.ntmps67
  go_wp2
  go_ret
  exact ⟨rfl,Below.refl _ _⟩
 have q2:decide ((a0.size:Int) > 8) = false:=zR (by omega)
 by_cases g3:a0.toList = [121,101,115]
 ·have q3:(a0.toList == ([121,101,115]:List UInt8)) = true:=beq_iff_eq.mpr g3
  rw [if_pos (.inr (.inr (.inl g3)))] at h
  subst h
  clear g1 g3
  go_enter Tryd.func67,Tryd.ntmps67
  go_wp2
  go_ret
  exact ⟨rfl,Below.refl _ _⟩
 have q3:(a0.toList == ([121,101,115]:List UInt8)) = false:=beq_eq_false_iff_ne.mpr g3
 by_cases g4:a0.toList = [110,111]
 ·have q4:(a0.toList == ([110,111]:List UInt8)) = true:=beq_iff_eq.mpr g4
  rw [if_pos (.inr (.inr (.inr g4)))] at h
  subst h
  clear g1 g3 g4
  go_enter Tryd.func67,Tryd.ntmps67
  go_wp2
  go_ret
  exact ⟨rfl,Below.refl _ _⟩
 have q4:(a0.toList == ([110,111]:List UInt8)) = false:=beq_eq_false_iff_ne.mpr g4
 rw [if_neg (by rintro (h|h|h|h);exact g1 h;exact g2 h;exact g3 h;exact g4 h)] at h
 have hcv:=Lib.run_convert_string_bytes (P:=Tryd.prog) w 9 110 5 a0 (u:=.string) Tryd.underlying9 Tryd.underlying110 Tryd.underlying5
 have HB:=zA (bytesWorld_below w 5 a0)
 have HC:=zA (fun j (hj:j < a0.size)=>Lib.bytesWorld_cell w 5 a0 j hj)
 obtain ⟨wb,hwb⟩:∃ wb,wb = Lib.bytesWorld w 5 a0:=⟨_,rfl⟩
 rw [← hwb] at hcv HB HC
 obtain ⟨gb,hgb⟩:∃ gb,gb = w.heap.size:=⟨_,rfl⟩
 rw [← hgb] at hcv HC
 obtain ⟨cp,hcp⟩:∃ cp,cp = grownCap w a0.size 0 5:=⟨_,rfl⟩
 rw [← hcp] at hcv
 have HN:=zA g2
 have HH:=zA h
 clear g1 g2 g3 g4 hwb hgb hcp h
 go_enter Tryd.func67,Tryd.ntmps67
 go_wp2
 clear q1 q2 q3 q4
 go_loop [23] (fun t23=>∃ j:Nat,t23 = .int .i64 (j:Int)∧Aside0 (j ≤ a0.size∧∀ i,i < j → nameAt a0.data.toList i = true)) (fun t23=>a0.size - (intOf t23).toNat)
 case atStart=>exact ⟨0,rfl,⟨Nat.zero_le _,fun i hi=>absurd hi (Nat.not_lt_zero _)⟩⟩
 case round =>
  obtain ⟨j,rfl,HJ⟩:=hrel
  by_cases hlt:j < a0.size
  ·have hq:decide ((j:Int) < (a0.size:Int)) = true:=zQ (by omega)
   have hq2:(0 ≤ (j:Int)) = True:=eq_true (by omega)
   have y:=HC.out j hlt
   have hcdef:∃ c:Nat,c = (a0.data.toList.getD j 0).toNat:=⟨_,rfl⟩
   obtain ⟨c,hcd⟩:=hcdef
   have e1:IntKind.i64.wrap ((j:Int) + 1) = (j:Int) + 1:=by rw [IntKind.wrap_i64];have:=HN.out;omega
   have bad:((c < 97 ∨ 122 < c)∧(c < 48 ∨ 57 < c ∨ j = 0)) → r = false:=fun hb=>by
    have hr:=HH.out
    rw [← hr,Bool.eq_false_iff]
    intro hall
    have:=List.all_eq_true.1 hall j (List.mem_range.2 hlt)
    unfold nameAt at this
    rw [← hcd,if_pos hb] at this
    cases this
   have good:¬ ((c < 97 ∨ 122 < c)∧(c < 48 ∨ 57 < c ∨ j = 0)) → ∀ i,i < j + 1 → nameAt a0.data.toList i = true:=fun hb i hi=>by
    rcases Nat.lt_or_eq_of_le (Nat.le_of_lt_succ hi) with h|h
    ·exact HJ.out.2 i h
    ·subst h
     unfold nameAt
     rw [← hcd,if_neg hb]
   rw [← hcd] at y
   clear hcd
   by_cases p1:c < 97
   ·have u1:decide ((c:Int) < 97) = true:=zQ (by omega)
    by_cases p3:c < 48
    ·have u3:decide ((c:Int) < 48) = true:=zQ (by omega)
     have hr:=bad ⟨.inl p1,.inl p3⟩
     subst hr
     clear bad good
     go_wp2
     go_ret
     exact ⟨rfl,HB.out⟩
    have u3:decide ((c:Int) < 48) = false:=zR (by omega)
    by_cases p4:57 < c
    ·have u4:decide ((c:Int) > 57) = true:=zQ (by omega)
     have hr:=bad ⟨.inl p1,.inr (.inl p4)⟩
     subst hr
     clear bad good
     go_wp2
     go_ret
     exact ⟨rfl,HB.out⟩
    have u4:decide ((c:Int) > 57) = false:=zR (by omega)
    by_cases p5:j = 0
    ·have hr:=bad ⟨.inl p1,.inr (.inr p5)⟩
     subst hr
     clear bad good
     subst p5
     go_wp2
     go_ret
     exact ⟨rfl,HB.out⟩
    have u5:((j:Int) == 0) = false:=by rw [beq_eq_false_iff_ne];omega
    have hg:=zA (good (by omega))
    clear bad good
    go_wp2
    go_round
    case rel=>exact ⟨j + 1,by go_num,⟨by omega,hg.out⟩⟩
    case measure=>simp [intOf];omega
   have u1:decide ((c:Int) < 97) = false:=zR (by omega)
   by_cases p2:122 < c
   ·have u2:decide ((c:Int) > 122) = true:=zQ (by omega)
    have u3:decide ((c:Int) < 48) = false:=zR (by omega)
    have u4:decide ((c:Int) > 57) = true:=zQ (by omega)
    have hr:=bad ⟨.inr p2,.inr (.inl (by omega))⟩
    subst hr
    clear bad good
    go_wp2
    go_ret
    exact ⟨rfl,HB.out⟩
   have u2:decide ((c:Int) > 122) = false:=zR (by omega)
   have hg:=zA (good (by omega))
   clear bad good
   go_wp2
   go_round
   case rel=>exact ⟨j + 1,by go_num,⟨by omega,hg.out⟩⟩
   case measure=>simp [intOf];omega
  ·have hq:decide ((j:Int) < (a0.size:Int)) = false:=zR (by omega)
   have hr:=HH.out
   rw [List.all_eq_true.2 (fun i hi=>HJ.out.2 i (by have:=List.mem_range.1 hi;have:=HJ.out.1;omega))] at hr
   subst hr
   go_wp2
   go_ret
   exact ⟨rfl,HB.out⟩
end
end Go.Proofs.YtkpddelnkjjflaaDoor.M
