-- Cut by a program of this session (wip/prune.py) from a longer text: declarations that the law does not need are left out.
import Derived.Test.YtkpddelnkjjflaaDoorKProductChecksMx0
import Derived.Test.YtkpddelnkjjflaaDoorKProductChecksMx3
import Derived.Test.YtkpddelnkjjflaaDoorKProductChecksMx5
import Derived.Test.YtkpddelnkjjflaaDoorKProductChecksMx6
import Derived.Test.YtkpddelnkjjflaaDoorKProductChecksMx9
import Derived.Test.YtkpddelnkjjflaaDoorKProductChecksMx13
namespace Go.Proofs.YtkpddelnkjjflaaDoor.M
open Go.Proofs.YtkpddelnkjjflaaDoor.Al
open Go.World renaming block_lt_of_cell? → zB
open Option renaming bind_eq_some_iff → zb
open List renaming setIfInBounds_toArray → zX, set_cons_zero → zY, set_cons_succ → zZ, map_toArray → zx, map_cons → zy, map_nil → zz, length_drop → zd, length_take → zt
open Go.Proofs.YtkpddelnkjjflaaDoorW.PrintWords renaming pw_below_drewN → zC, below_alloc → zD, below_drew1 → zE, below_set → zF, below_size → zG, below_step → zH, blk_cell → zI, blk_frozen → zJ, blk_alloc → zK, blk_drewN → zL, blk_drew → zM, blk_below → zN, blk_put → zO, Kd.C_below → zT, gate_callee → zU, gate_dst → zV, box_event → zW
open Go.RowKit Go.Proofs.YtkpddelnkjjflaaDoorW.PrintWords Go.Proofs.YtkpddelnkjjflaaDoorW.PrintLast Go.Proofs.YtkpddelnkjjflaaDoorW.PrintMore
attribute [local go_sem] max2_int min2_int max_two min_two max_three min_three max_four min_four
set_option linter.unusedVariables false
set_option linter.unusedSimpArgs false
def foretelllaw_tasks.f (k:Nat) (l0_0:List (S74)) (l0_1:List (S68)) (l0_2:List (List (S94))) (l0_3:List (S94)):Option ((List (S74)) × (List (S68)) × (List (List (S94))) × (List (S94))):=(foretelllaw_models.f k l0_0 l0_1).bind fun bt412=>((foretelllaw_terms.f k l0_2).bind fun t418=>((foretelllaw_ops.f l0_3).bind fun t421=>(some (bt412.1,bt412.2,t418,t421))))
theorem foretelllaw_tasks.mono:∀ a0 a1 a2 a3 k,LeO (foretelllaw_tasks.f k a0 a1 a2 a3) (foretelllaw_tasks.f (k + 1) a0 a1 a2 a3):=by
 intro a0 a1 a2 a3 k
 unfold foretelllaw_tasks.f
 repeat' first
   | (with_reducible exact foretelllaw_models.mono _ _ _)
   | (with_reducible exact foretelllaw_terms.mono _ _)
   | (with_reducible exact LeO.refl _)
   | (with_reducible exact LeO.none _)
   | (with_reducible refine LeO.ite ?_ ?_)
   | (with_reducible refine LeO.bind ?_ (fun _=>?_))
   | exact foretelllaw_models.mono _ _ _
   | exact foretelllaw_terms.mono _ _
   | exact LeO.none _
   | refine LeO.ite ?_ ?_
   | refine LeO.bind ?_ (fun _=>?_)
def foretelllaw_tasks.T1:Bool × List (List Nat × List Nat):=(true,[([],[]),([0],[0]),([1],[1]),([],[]),([3],[3]),([4,2],[4]),([],[]),([6],[6]),([7,5],[7]),([2,5,8],[2,5,8]),([9,8,0,1,2,3,4,5,6,7,8,9],[9])])
def foretelllaw_tasks.B1:List Nat:=[0,1,3,0,8,31,0,64,255,511,1023]
theorem foretelllaw_tasks.tab1:rtab .any (opsOf Tryd.f32 1) = foretelllaw_tasks.T1:=by kernel_rfl
theorem foretelllaw_tasks.bits1:waitsOk foretelllaw_tasks.T1.2 foretelllaw_tasks.B1 = true:=by kernel_rfl
set_option maxHeartbeats 8000000 in
set_option maxRecDepth 100000 in
theorem foretelllaw_tasks.calls (k:Nat) (A0_0:Option Addr) (c0_0:Nat) (l0_0:List (S74)) (A0_1:Option Addr) (c0_1:Nat) (l0_1:List (S68)) (A0_2:Option Addr) (c0_2:Nat) (l0_2:List (List (S94))) (A0_3:Option Addr) (c0_3:Nat) (l0_3:List (S94)) (r1:List (S74)) (r2:List (S68)) (r3:List (List (S94))) (r4:List (S94)) (w:World) (hr0_0:Kd.C k74 w A0_0 l0_0.length l0_0) (hc0_0:l0_0.length ≤ c0_0) (hr0_1:Kd.C k68 w A0_1 l0_1.length l0_1) (hc0_1:l0_1.length ≤ c0_1) (hr0_2:Kd.C (Kd.slice 94 k94) w A0_2 l0_2.length l0_2) (hc0_2:l0_2.length ≤ c0_2) (hr0_3:Kd.C k94 w A0_3 l0_3.length l0_3) (hc0_3:l0_3.length ≤ c0_3) (h:foretelllaw_tasks.f k l0_0 l0_1 l0_2 l0_3 = some (r1,r2,r3,r4)) :
  Calls Tryd.prog 32 #[.agg #[.slice A0_0 l0_0.length c0_0,.slice A0_1 l0_1.length c0_1,.slice A0_2 l0_2.length c0_2,.slice A0_3 l0_3.length c0_3]] w fun e w'=>∃ v0_ v1_ v2_ v3_:Value,e = .returned (.agg #[v0_,v1_,v2_,v3_])∧Kd.R k74 74 w' w.heap.size (fun _=>True) v0_ r1∧Kd.R k68 68 w' w.heap.size (fun k_=>some k_ ≠ (v3_:Value).ownBlock) v1_ r2∧Kd.S (Kd.slice 94 k94) 45 w' w.heap.size (fun k_=>some k_ ≠ (v3_:Value).ownBlock) v2_ r3∧Kd.R k94 94 w' w.heap.size (fun _=>True) v3_ r4∧Below w.heap.size w w':=by
 have hu47:=Tryd.underlying47
 have hu25:=Tryd.underlying25
 have HR0_0:=zA hr0_0
 have HC0_0:=zA hc0_0
 clear hr0_0 hc0_0
 have HR0_1:=zA hr0_1
 have HC0_1:=zA hc0_1
 clear hr0_1 hc0_1
 have HR0_2:=zA hr0_2
 have HC0_2:=zA hc0_2
 clear hr0_2 hc0_2
 have HR0_3:=zA hr0_3
 have HC0_3:=zA hc0_3
 clear hr0_3 hc0_3
 have HB:=zA (Below.refl w.heap.size w)
 have H:((foretelllaw_models.f k l0_0 l0_1).bind fun bt412=>((foretelllaw_terms.f k l0_2).bind fun t418=>((foretelllaw_ops.f l0_3).bind fun t421=>(some (bt412.1,bt412.2,t418,t421))))) = some (r1,r2,r3,r4):=h
 clear h
 replace H:=zb.mp H
 obtain ⟨⟨t412,t415⟩,A20,H⟩:=H
 replace H:((foretelllaw_terms.f k l0_2).bind fun t418=>((foretelllaw_ops.f l0_3).bind fun t421=>(some (t412,t415,t418,t421)))) = some (r1,r2,r3,r4):=H
 have A2:=zA A20
 clear A20
 replace H:=zb.mp H
 obtain ⟨t418,A30,H⟩:=H
 replace H:((foretelllaw_ops.f l0_3).bind fun t421=>(some (t412,t415,t418,t421))) = some (r1,r2,r3,r4):=H
 have A3:=zA A30
 clear A30
 replace H:=zb.mp H
 obtain ⟨t421,A40,H⟩:=H
 replace H:(some (t412,t415,t418,t421)) = some (r1,r2,r3,r4):=H
 have A4:=zA A40
 clear A40
 simp only [Option.some.injEq,Prod.mk.injEq] at H
 obtain ⟨rfl,rfl,rfl,rfl⟩:=H
 go_enter Tryd.func32,Tryd.ntmps32
 try go_wp2_with (first|((with_reducible refine zV (N:=1) rfl ?_);refine zW ?hg (N:=1) ?hd (cs:=#[.slice A0_0 l0_0.length c0_0,.slice A0_1 l0_1.length c0_1,.slice A0_2 l0_2.length c0_2,.slice A0_3 l0_3.length c0_3]) (t:=47) ?hr ?_;(case hd=>rfl);(case hg=>rfl);(case hr=>first|(go_simp;done)|(go_simp;rfl));intro gb410 hg w5 hbox hb;have n0_:=zA (zH (by repeat (first|(with_reducible first|exact HB.out|apply zD|apply zC|apply zE)|exact HB.out)) hb);have n1_:=zA (hbox);have n2_:=zA ((by rw [hg];exact (zG (by repeat (first|(with_reducible first|exact HB.out|apply zD|apply zC|apply zE)|exact HB.out))):w.heap.size ≤ gb410));have n3_:=zA ((by rw [hg];exact (zG (by repeat (first|(with_reducible first|exact HB.out|apply zD|apply zC|apply zE)|exact HB.out))):w.heap.size ≤ gb410));clear HB;have HB:=n0_;have BK410:=n1_;have GW410:=n2_;have GE410:=n3_;clear n0_ n1_ n2_ n3_;clear hb hbox hg)|((with_reducible refine zV (N:=2) rfl ?_);refine zW ?hg (N:=2) ?hd (cs:=#[.slice none 0 0,.slice none 0 0,.slice none 0 0,.slice none 0 0]) (t:=47) ?hr ?_;(case hd=>rfl);(case hg=>rfl);(case hr=>first|(go_simp;done)|(go_simp;rfl));intro gb411 hg w6 hbox hb;have n0_:=zA (zN (g:=gb410) (o:=.cells #[.slice A0_0 l0_0.length c0_0,.slice A0_1 l0_1.length c0_1,.slice A0_2 l0_2.length c0_2,.slice A0_3 l0_3.length c0_3] 47 (0,0)) (by (with_reducible repeat (first|refine zL ?_ _|refine zM ?_|refine zK ?_ _));exact BK410.out) hb);have n1_:=zA (zH (by repeat (first|(with_reducible first|exact HB.out|apply zD|apply zC|apply zE|refine zF ?_ GE410.out)|exact HB.out)) hb);have n2_:=zA (hbox);have n3_:=zA ((by rw [hg];exact (zG (by repeat (first|(with_reducible first|exact HB.out|apply zD|apply zC|apply zE|refine zF ?_ GE410.out)|exact HB.out))):w.heap.size ≤ gb411));have n4_:=zA ((by rw [hg];exact (zG (by repeat (first|(with_reducible first|exact HB.out|apply zD|apply zC|apply zE|refine zF ?_ GE410.out)|exact HB.out))):w.heap.size ≤ gb411));have n5_:=zA ((by rw [hg];exact Nat.ne_of_lt (blk_lt (g:=gb410) (o:=.cells #[.slice A0_0 l0_0.length c0_0,.slice A0_1 l0_1.length c0_1,.slice A0_2 l0_2.length c0_2,.slice A0_3 l0_3.length c0_3] 47 (0,0)) (by (with_reducible repeat (first|refine zL ?_ _|refine zM ?_|refine zK ?_ _));exact BK410.out)):gb410 ≠ gb411));have n6_:=zA ((by rw [hg];exact Nat.ne_of_gt (blk_lt (g:=gb410) (o:=.cells #[.slice A0_0 l0_0.length c0_0,.slice A0_1 l0_1.length c0_1,.slice A0_2 l0_2.length c0_2,.slice A0_3 l0_3.length c0_3] 47 (0,0)) (by (with_reducible repeat (first|refine zL ?_ _|refine zM ?_|refine zK ?_ _));exact BK410.out)):gb411 ≠ gb410));clear BK410;clear HB;have BK410:=n0_;have HB:=n1_;have BK411:=n2_;have GW411:=n3_;have GE411:=n4_;have NB410_411:=n5_;have NB411_410:=n6_;clear n0_ n1_ n2_ n3_ n4_ n5_ n6_;clear hb hbox hg))
 have n0_:=zA (zM BK410.out)
 have n1_:=zA (zM BK411.out)
 have n2_:=zA (zE HB.out)
 clear BK410
 clear BK411
 clear HB
 have BK410:=n0_
 have BK411:=n1_
 have HB:=n2_
 clear n0_ n1_ n2_
 refine start_ (n:=11) (S:=fun w'=>w'.cell? ⟨gb410,0,none⟩ = some (.slice A0_0 l0_0.length c0_0)∧w'.cell? ⟨gb410,1,none⟩ = some (.slice A0_1 l0_1.length c0_1)∧w'.cell? ⟨gb410,2,none⟩ = some (.slice A0_2 l0_2.length c0_2)∧w'.cell? ⟨gb410,3,none⟩ = some (.slice A0_3 l0_3.length c0_3)) (ds:=[]) #[false,false,false,false,false,false,false,false,false,false,false] (by kernel_rfl) rfl rfl ⟨(zI BK410.out 0).trans rfl,(zI BK410.out 1).trans rfl,(zI BK410.out 2).trans rfl,(zI BK410.out 3).trans rfl⟩ (fun hHeld=>?_);refine with_tabW foretelllaw_tasks.tab1 foretelllaw_tasks.bits1 (fun HT_ HW_=>?_)
 generalize w6.drew = w7 at BK410 BK411 HB hHeld ⊢
 refine pure_ (i:=0) (N:=some 3) (v:=?_) (a':=?_) #[true,false,false,false,false,false,false,false,false,false,false] rfl rfl (any_of HT_.out (by kernel_rfl)) (fun _ _ _ h=>h) (Or.inl ⟨by rfl,?_⟩) ?_ ?_
 rotate_left
 ·intro w'
  go_simp
  with_reducible rfl
 rotate_left
 ·simp only [Act.put,zX,zY,zZ,i64_w,i32_w]
  rfl
 refine pure_ (i:=3) (N:=some 6) (v:=?_) (a':=?_) #[true,false,false,true,false,false,false,false,false,false,false] rfl rfl (any_of HT_.out (by kernel_rfl)) (fun _ _ _ h=>h) (Or.inl ⟨by rfl,?_⟩) ?_ ?_
 rotate_left
 ·intro w'
  go_simp
  with_reducible rfl
 rotate_left
 ·simp only [Act.put,zX,zY,zZ,i64_w,i32_w]
  rfl
 refine pure_ (i:=6) (N:=some 9) (v:=?_) (a':=?_) #[true,false,false,true,false,false,true,false,false,false,false] rfl rfl (any_of HT_.out (by kernel_rfl)) (fun _ _ _ h=>h) (Or.inl ⟨by rfl,?_⟩) ?_ ?_
 rotate_left
 ·intro w'
  go_simp
  with_reducible rfl
 rotate_left
 ·simp only [Act.put,zX,zY,zZ,i64_w,i32_w]
  rfl
 refine take_ (i:=1) (N:=some 4) (v:=?_) (a':=?_) #[true,true,false,true,false,false,true,false,false,false,false] rfl rfl (take_ofW HT_.out HW_.out (by kernel_rfl)) (fun _ _ _ h=>h) (Or.inl ⟨by rfl,?_⟩) hHeld ?_ ?_
 rotate_left
 ·rintro w' ⟨s0,s1,s2,s3⟩
  go_simp
  with_reducible rfl
 rotate_left
 ·simp only [Act.put,zX,zY,zZ,i64_w,i32_w]
  rfl
 refine take_ (i:=4) (N:=some 7) (v:=?_) (a':=?_) #[true,true,false,true,true,false,true,false,false,false,false] rfl rfl (take_ofW HT_.out HW_.out (by kernel_rfl)) (fun _ _ _ h=>h) (Or.inl ⟨by rfl,?_⟩) hHeld ?_ ?_
 rotate_left
 ·rintro w' ⟨s0,s1,s2,s3⟩
  go_simp
  with_reducible rfl
 rotate_left
 ·simp only [Act.put,zX,zY,zZ,i64_w,i32_w]
  rfl
 refine take_ (i:=7) (N:=some 10) (v:=?_) (a':=?_) #[true,true,false,true,true,false,true,true,false,false,false] rfl rfl (take_ofW HT_.out HW_.out (by kernel_rfl)) (fun _ _ _ h=>h) (Or.inl ⟨by rfl,?_⟩) hHeld ?_ ?_
 rotate_left
 ·rintro w' ⟨s0,s1,s2,s3⟩
  go_simp
  with_reducible rfl
 rotate_left
 ·simp only [Act.put,zX,zY,zZ,i64_w,i32_w]
  rfl
 refine one_ (i:=2) (N:=some 5) #[true,true,true,true,true,false,true,true,false,false,false] rfl rfl (one_of HT_.out (by kernel_rfl)) (by decide) (fun K hK=>?_)
 refine goes_ Tryd.func15 (by kernel_rfl) rfl #[.agg #[.slice A0_0 l0_0.length c0_0,.slice A0_1 l0_1.length c0_1]] (by rfl) rfl rfl (by (try simp only [zx,zy,zz]);first|done|rfl|(simp only [zd,zt];rfl)) ?_
 with_reducible refine (foretelllaw_models.calls k _ _ l0_0 _ _ l0_1 t412 t415 _ ?side1 ?side2 ?side3 ?side4 A2.out).mono ?_
 (case side1=>repeat (first|exact (zT HR0_0.out HB.out)|(with_reducible refine Kd.C_alloc ?_ _)|(with_reducible refine Kd.C_drewN ?_ _)|(with_reducible refine Kd.C_drew ?_)))
 (case side2=>exact HC0_0.out)
 (case side3=>repeat (first|exact (zT HR0_1.out HB.out)|(with_reducible refine Kd.C_alloc ?_ _)|(with_reducible refine Kd.C_drewN ?_ _)|(with_reducible refine Kd.C_drew ?_)))
 (case side4=>exact HC0_1.out)
 rintro e w8 ⟨v413,v416,rfl,ho0,ho1,hb⟩
 refine ⟨_,rfl,?_⟩
 have n0_:=zA (Kd.R_lower ho0 (zG (by repeat (first|(with_reducible first|exact HB.out|apply zD|apply zC|apply zE|refine zF ?_ GE410.out|refine zF ?_ GE411.out)|exact HB.out))))
 have n1_:=zA (Kd.R_lower ho1 (zG (by repeat (first|(with_reducible first|exact HB.out|apply zD|apply zC|apply zE|refine zF ?_ GE410.out|refine zF ?_ GE411.out)|exact HB.out))))
 have n2_:=zA (zN (g:=gb410) (o:=.cells #[.slice A0_0 l0_0.length c0_0,.slice A0_1 l0_1.length c0_1,.slice A0_2 l0_2.length c0_2,.slice A0_3 l0_3.length c0_3] 47 (0,0)) (by (with_reducible repeat (first|refine zL ?_ _|refine zM ?_|refine zK ?_ _));exact BK410.out) hb)
 have n3_:=zA (zN (g:=gb411) (o:=.cells #[.slice none 0 0,.slice none 0 0,.slice none 0 0,.slice none 0 0] 47 (0,0)) (by (with_reducible repeat (first|refine zL ?_ _|refine zM ?_|refine zK ?_ _));exact BK411.out) hb)
 have n4_:=zA (zH (by repeat (first|(with_reducible first|exact HB.out|apply zD|apply zC|apply zE|refine zF ?_ GE410.out|refine zF ?_ GE411.out)|exact HB.out)) hb)
 clear BK410
 clear BK411
 clear HB
 have HO414:=n0_
 have HO417:=n1_
 have BK410:=n2_
 have BK411:=n3_
 have HB:=n4_
 clear n0_ n1_ n2_ n3_ n4_
 (try clear hb)
 (try clear hb2)
 (try clear hk)
 (try clear hi)
 (try clear ho0)
 (try clear ho1)
 refine hK.out _ _ ⟨(zI BK410.out 0).trans rfl,(zI BK410.out 1).trans rfl,(zI BK410.out 2).trans rfl,(zI BK410.out 3).trans rfl⟩ (fun hHeld=>?_)
 clear hK K
 refine norm_ (a':=?_) ?_ ?_
 rotate_left
 ·show Act.put _ (some 5) _ = _
  simp only [Act.put,zX,zY,zZ,i64_w,i32_w]
  rfl
 refine one_ (i:=5) (N:=some 8) #[true,true,true,true,true,true,true,true,false,false,false] rfl rfl (one_of HT_.out (by kernel_rfl)) (by decide) (fun K hK=>?_)
 refine goes_ Tryd.func22 (by kernel_rfl) rfl #[.slice A0_2 l0_2.length c0_2] (by rfl) rfl rfl (by (try simp only [zx,zy,zz]);first|done|rfl|(simp only [zd,zt];rfl)) ?_
 with_reducible refine (foretelllaw_terms.calls k _ _ l0_2 t418 _ ?side1 ?side2 A3.out).mono ?_
 (case side1=>repeat (first|exact (zT HR0_2.out HB.out)|(with_reducible refine Kd.C_alloc ?_ _)|(with_reducible refine Kd.C_drewN ?_ _)|(with_reducible refine Kd.C_drew ?_)))
 (case side2=>exact HC0_2.out)
 rintro e w9 ⟨v419,rfl,ho0,hb⟩
 refine ⟨_,rfl,?_⟩
 have n0_:=zA (Kd.R_below (by (with_reducible repeat (first|apply Kd.R_alloc|apply Kd.R_drewN|apply Kd.R_drew));exact HO414.out) hb)
 have n1_:=zA (Kd.R_below (by (with_reducible repeat (first|apply Kd.R_alloc|apply Kd.R_drewN|apply Kd.R_drew));exact HO417.out) hb)
 have n2_:=zA (Kd.S_lower ho0 (zG (by repeat (first|(with_reducible first|exact HB.out|apply zD|apply zC|apply zE|refine zF ?_ GE410.out|refine zF ?_ GE411.out)|exact HB.out))))
 have n3_:=zA (zN (g:=gb410) (o:=.cells #[.slice A0_0 l0_0.length c0_0,.slice A0_1 l0_1.length c0_1,.slice A0_2 l0_2.length c0_2,.slice A0_3 l0_3.length c0_3] 47 (0,0)) (by (with_reducible repeat (first|refine zL ?_ _|refine zM ?_|refine zK ?_ _));exact BK410.out) hb)
 have n4_:=zA (zN (g:=gb411) (o:=.cells #[.slice none 0 0,.slice none 0 0,.slice none 0 0,.slice none 0 0] 47 (0,0)) (by (with_reducible repeat (first|refine zL ?_ _|refine zM ?_|refine zK ?_ _));exact BK411.out) hb)
 have n5_:=zA (zH (by repeat (first|(with_reducible first|exact HB.out|apply zD|apply zC|apply zE|refine zF ?_ GE410.out|refine zF ?_ GE411.out)|exact HB.out)) hb)
 clear HO414
 clear HO417
 clear BK410
 clear BK411
 clear HB
 have HO414:=n0_
 have HO417:=n1_
 have HO420:=n2_
 have BK410:=n3_
 have BK411:=n4_
 have HB:=n5_
 clear n0_ n1_ n2_ n3_ n4_ n5_
 (try clear hb)
 (try clear hb2)
 (try clear hk)
 (try clear hi)
 (try clear ho0)
 refine hK.out _ _ ⟨(zI BK410.out 0).trans rfl,(zI BK410.out 1).trans rfl,(zI BK410.out 2).trans rfl,(zI BK410.out 3).trans rfl⟩ (fun hHeld=>?_)
 clear hK K
 refine norm_ (a':=?_) ?_ ?_
 rotate_left
 ·show Act.put _ (some 8) _ = _
  simp only [Act.put,zX,zY,zZ,i64_w,i32_w]
  rfl
 refine one_ (i:=8) (N:=some 11) #[true,true,true,true,true,true,true,true,true,false,false] rfl rfl (one_of HT_.out (by kernel_rfl)) (by decide) (fun K hK=>?_)
 refine goes_ Tryd.func47 (by kernel_rfl) rfl #[.slice A0_3 l0_3.length c0_3] (by rfl) rfl rfl (by (try simp only [zx,zy,zz]);first|done|rfl|(simp only [zd,zt];rfl)) ?_
 with_reducible refine (foretelllaw_ops.calls _ _ l0_3 t421 _ ?side1 ?side2 A4.out).mono ?_
 (case side1=>repeat (first|exact (zT HR0_3.out HB.out)|(with_reducible refine Kd.C_alloc ?_ _)|(with_reducible refine Kd.C_drewN ?_ _)|(with_reducible refine Kd.C_drew ?_)))
 (case side2=>exact HC0_3.out)
 rintro e w10 ⟨v422,rfl,ho0,hb⟩
 refine ⟨_,rfl,?_⟩
 have n0_:=zA (Kd.R_below (by (with_reducible repeat (first|apply Kd.R_alloc|apply Kd.R_drewN|apply Kd.R_drew));exact HO414.out) hb)
 have n1_:=zA (Kd.R_elder' (by (with_reducible repeat (first|apply Kd.R_alloc|apply Kd.R_drewN|apply Kd.R_drew));exact HO417.out) (Kd.R_base ho0) hb)
 have n2_:=zA (Kd.S_elder' (by (with_reducible repeat (first|apply Kd.S_alloc|apply Kd.S_drewN|apply Kd.S_drew));exact HO420.out) (Kd.R_base ho0) hb)
 have n3_:=zA (Kd.R_lower ho0 (zG (by repeat (first|(with_reducible first|exact HB.out|apply zD|apply zC|apply zE|refine zF ?_ GE410.out|refine zF ?_ GE411.out)|exact HB.out))))
 have n4_:=zA (zN (g:=gb410) (o:=.cells #[.slice A0_0 l0_0.length c0_0,.slice A0_1 l0_1.length c0_1,.slice A0_2 l0_2.length c0_2,.slice A0_3 l0_3.length c0_3] 47 (0,0)) (by (with_reducible repeat (first|refine zL ?_ _|refine zM ?_|refine zK ?_ _));exact BK410.out) hb)
 have n5_:=zA (zN (g:=gb411) (o:=.cells #[.slice none 0 0,.slice none 0 0,.slice none 0 0,.slice none 0 0] 47 (0,0)) (by (with_reducible repeat (first|refine zL ?_ _|refine zM ?_|refine zK ?_ _));exact BK411.out) hb)
 have n6_:=zA (zH (by repeat (first|(with_reducible first|exact HB.out|apply zD|apply zC|apply zE|refine zF ?_ GE410.out|refine zF ?_ GE411.out)|exact HB.out)) hb)
 clear HO414
 clear HO417
 clear HO420
 clear BK410
 clear BK411
 clear HB
 have HO414:=n0_
 have HO417:=n1_
 have HO420:=n2_
 have HO423:=n3_
 have BK410:=n4_
 have BK411:=n5_
 have HB:=n6_
 clear n0_ n1_ n2_ n3_ n4_ n5_ n6_
 (try clear hb)
 (try clear hb2)
 (try clear hk)
 (try clear hi)
 (try clear ho0)
 obtain ⟨Ao11,co11,eo11⟩:=Kd.R_slice HO423.out
 (first|subst eo11|(injection eo11 with f1_ f2_ f3_;have f4_:=f1_.symm;have f5_:=f3_.symm;clear f1_ f2_ f3_;subst f4_;subst f5_))
 obtain ⟨Ao12,co12,eo12⟩:=Kd.S_slice HO420.out
 (first|subst eo12|(injection eo12 with f1_ f2_ f3_;have f4_:=f1_.symm;have f5_:=f3_.symm;clear f1_ f2_ f3_;subst f4_;subst f5_))
 obtain ⟨Ao13,co13,eo13⟩:=Kd.R_slice HO417.out
 (first|subst eo13|(injection eo13 with f1_ f2_ f3_;have f4_:=f1_.symm;have f5_:=f3_.symm;clear f1_ f2_ f3_;subst f4_;subst f5_))
 obtain ⟨Ao14,co14,eo14⟩:=Kd.R_slice HO414.out
 (first|subst eo14|(injection eo14 with f1_ f2_ f3_;have f4_:=f1_.symm;have f5_:=f3_.symm;clear f1_ f2_ f3_;subst f4_;subst f5_))
 refine hK.out _ _ ⟨(zI BK410.out 0).trans rfl,(zI BK410.out 1).trans rfl,(zI BK410.out 2).trans rfl,(zI BK410.out 3).trans rfl⟩ (fun hHeld=>?_)
 clear hK K
 refine norm_ (a':=?_) ?_ ?_
 rotate_left
 ·show Act.put _ (some 11) _ = _
  simp only [Act.put,zX,zY,zZ,i64_w,i32_w]
  rfl
 refine pure_ (i:=9) (N:=some 12) (v:=?_) (a':=?_) #[true,true,true,true,true,true,true,true,true,true,false] rfl rfl (any_of HT_.out (by kernel_rfl)) (fun _ _ _ h=>h) (Or.inl ⟨by rfl,?_⟩) ?_ ?_
 rotate_left
 ·intro w'
  go_simp
  with_reducible rfl
 rotate_left
 ·simp only [Act.put,zX,zY,zZ,i64_w,i32_w]
  rfl
 refine one_ (i:=10) (N:=none) #[true,true,true,true,true,true,true,true,true,true,true] rfl rfl (one_of HT_.out (by kernel_rfl)) (by decide) (fun K hK=>?_)
 have hs15:w10.cell? ⟨gb411,0,none⟩ = some (.slice none 0 0):=(zI BK411.out 0).trans rfl
 have hfs15:=zJ BK411.out 0
 have hns15_0:=NB410_411.out
 have hms15_0:=NB411_410.out
 have hs16:w10.cell? ⟨gb411,1,none⟩ = some (.slice none 0 0):=(zI BK411.out 1).trans rfl
 have hfs16:=zJ BK411.out 1
 have hns16_0:=NB410_411.out
 have hms16_0:=NB411_410.out
 have hs17:w10.cell? ⟨gb411,2,none⟩ = some (.slice none 0 0):=(zI BK411.out 2).trans rfl
 have hfs17:=zJ BK411.out 2
 have hns17_0:=NB410_411.out
 have hms17_0:=NB411_410.out
 have hs18:w10.cell? ⟨gb411,3,none⟩ = some (.slice none 0 0):=(zI BK411.out 3).trans rfl
 have hfs18:=zJ BK411.out 3
 have hns18_0:=NB410_411.out
 have hms18_0:=NB411_410.out
 refine skip_ (w1:=?_) (by rfl) rfl ?_ ?_
 rotate_left
 ·go_simp
  rfl
 refine hK.out _ _ ⟨((cell_far (p:=⟨gb411,_,none⟩) NB410_411.out _).trans (((cell_far (p:=⟨gb411,_,none⟩) NB410_411.out _).trans (((cell_far (p:=⟨gb411,_,none⟩) NB410_411.out _).trans (((cell_far (p:=⟨gb411,_,none⟩) NB410_411.out _).trans (hHeld.1)))))))),((cell_far (p:=⟨gb411,_,none⟩) NB410_411.out _).trans (((cell_far (p:=⟨gb411,_,none⟩) NB410_411.out _).trans (((cell_far (p:=⟨gb411,_,none⟩) NB410_411.out _).trans (((cell_far (p:=⟨gb411,_,none⟩) NB410_411.out _).trans (hHeld.2.1)))))))),((cell_far (p:=⟨gb411,_,none⟩) NB410_411.out _).trans (((cell_far (p:=⟨gb411,_,none⟩) NB410_411.out _).trans (((cell_far (p:=⟨gb411,_,none⟩) NB410_411.out _).trans (((cell_far (p:=⟨gb411,_,none⟩) NB410_411.out _).trans (hHeld.2.2.1)))))))),((cell_far (p:=⟨gb411,_,none⟩) NB410_411.out _).trans (((cell_far (p:=⟨gb411,_,none⟩) NB410_411.out _).trans (((cell_far (p:=⟨gb411,_,none⟩) NB410_411.out _).trans (((cell_far (p:=⟨gb411,_,none⟩) NB410_411.out _).trans (hHeld.2.2.2))))))))⟩ (fun hHeld=>?_)
 clear hK K
 refine done_ (done_of HT_.out (by kernel_rfl)) ?_
 try go_wp2
 refine bodyPost_ret (results_cell_row rfl _ _ gb411 47 #[.slice Ao14 t412.length co14,.slice Ao13 t415.length co13,.slice Ao12 t418.length co12,.slice Ao11 t421.length co11] (0,0) _ rfl (by (with_reducible repeat (first|refine zL ?_ _|refine zM ?_|refine zK ?_ _));refine zO (cs:=#[.slice Ao14 t412.length co14,.slice Ao13 t415.length co13,.slice Ao12 t418.length co12,.slice none 0 0]) ?_ 3 _ rfl;(with_reducible repeat (first|refine zL ?_ _|refine zM ?_|refine zK ?_ _));refine zO (cs:=#[.slice Ao14 t412.length co14,.slice Ao13 t415.length co13,.slice none 0 0,.slice none 0 0]) ?_ 2 _ rfl;(with_reducible repeat (first|refine zL ?_ _|refine zM ?_|refine zK ?_ _));refine zO (cs:=#[.slice Ao14 t412.length co14,.slice none 0 0,.slice none 0 0,.slice none 0 0]) ?_ 1 _ rfl;(with_reducible repeat (first|refine zL ?_ _|refine zM ?_|refine zK ?_ _));refine zO (cs:=#[.slice none 0 0,.slice none 0 0,.slice none 0 0,.slice none 0 0]) ?_ 0 _ rfl;(with_reducible repeat (first|refine zL ?_ _|refine zM ?_|refine zK ?_ _));exact BK411.out) Tryd.underlying47 rfl (by kernel_rfl)) rfl ?_
 exact ⟨_,_,_,_,by first|rfl|(simp [errW_none,errW_some] <;> rfl)|(simp [*,errW_none,errW_some] <;> rfl),by (with_reducible repeat (first|apply Kd.R_alloc|apply Kd.R_drewN|apply Kd.R_drew));exact Kd.R_mono (Kd.R_far (p:=⟨gb411,3,none⟩) (Kd.R_far (p:=⟨gb411,2,none⟩) (Kd.R_far (p:=⟨gb411,1,none⟩) (Kd.R_far (p:=⟨gb411,0,none⟩) (Kd.R_types HO414.out BK411.out (by decide)) (fun _ hk=>hk.2) (.slice Ao14 t412.length co14)) (fun _ hk=>hk.2) (.slice Ao13 t415.length co13)) (fun _ hk=>hk.2) (.slice Ao12 t418.length co12)) (fun _ hk=>hk.2) (.slice Ao11 t421.length co11)) (fun _ hk=>trivial),by (with_reducible repeat (first|apply Kd.R_alloc|apply Kd.R_drewN|apply Kd.R_drew));exact Kd.R_mono (Kd.R_far (p:=⟨gb411,3,none⟩) (Kd.R_far (p:=⟨gb411,2,none⟩) (Kd.R_far (p:=⟨gb411,1,none⟩) (Kd.R_far (p:=⟨gb411,0,none⟩) (Kd.R_types HO417.out BK411.out (by decide)) (fun _ hk=>hk.2) (.slice Ao14 t412.length co14)) (fun _ hk=>hk.2) (.slice Ao13 t415.length co13)) (fun _ hk=>hk.2) (.slice Ao12 t418.length co12)) (fun _ hk=>hk.2) (.slice Ao11 t421.length co11)) (fun _ hk=>hk.1.2),by (with_reducible repeat (first|apply Kd.S_alloc|apply Kd.S_drewN|apply Kd.S_drew));exact Kd.S_mono (Kd.S_far (p:=⟨gb411,3,none⟩) (Kd.S_far (p:=⟨gb411,2,none⟩) (Kd.S_far (p:=⟨gb411,1,none⟩) (Kd.S_far (p:=⟨gb411,0,none⟩) (Kd.S_types HO420.out BK411.out (by decide)) (fun _ hk=>hk.2) (.slice Ao14 t412.length co14)) (fun _ hk=>hk.2) (.slice Ao13 t415.length co13)) (fun _ hk=>hk.2) (.slice Ao12 t418.length co12)) (fun _ hk=>hk.2) (.slice Ao11 t421.length co11)) (fun _ hk=>hk.1.2),by (with_reducible repeat (first|apply Kd.R_alloc|apply Kd.R_drewN|apply Kd.R_drew));exact Kd.R_mono (Kd.R_far (p:=⟨gb411,3,none⟩) (Kd.R_far (p:=⟨gb411,2,none⟩) (Kd.R_far (p:=⟨gb411,1,none⟩) (Kd.R_far (p:=⟨gb411,0,none⟩) (Kd.R_types HO423.out BK411.out (by decide)) (fun _ hk=>hk.2) (.slice Ao14 t412.length co14)) (fun _ hk=>hk.2) (.slice Ao13 t415.length co13)) (fun _ hk=>hk.2) (.slice Ao12 t418.length co12)) (fun _ hk=>hk.2) (.slice Ao11 t421.length co11)) (fun _ hk=>trivial),by repeat (first|(with_reducible first|exact HB.out|apply zD|apply zC|apply zE|refine zF ?_ GE410.out|refine zF ?_ GE411.out)|exact HB.out)⟩
def logic_fits.f (a0_0:Int) (a0_1:Int) (a1:Int):Option (Int):=if a0_0 < 8 then (some 13) else (if a0_0 = 13 then (if a0_1 < 0 then (some 2) else (if a0_1 ≥ a1 then (some 2) else (some 0))) else (if a0_1 = 0 then (some 0) else (some 2)))
set_option maxHeartbeats 8000000 in
set_option maxRecDepth 100000 in
theorem logic_fits.calls (a0_0:Int) (a0_1:Int) (a1:Int) (r:Int) (w:World) (h:logic_fits.f a0_0 a0_1 a1 = some r) :
  Calls Tryd.prog 72 #[.agg #[.int .i64 a0_0,.int .i64 a0_1],.int .i64 a1] w fun e w'=>e = .returned (.int .i64 r)∧Below w.heap.size w w':=by
 have hu94:=Tryd.underlying94
 have HB:=zA (Below.refl w.heap.size w)
 have H:(if a0_0 < 8 then (some 13) else (if a0_0 = 13 then (if a0_1 < 0 then (some 2) else (if a0_1 ≥ a1 then (some 2) else (some 0))) else (if a0_1 = 0 then (some 0) else (some 2)))) = some r:=h
 clear h
 by_cases c3:a0_0 < 8
 ·rw [if_pos c3] at H
  have c3b0:decide (a0_0 < 8) = true:=zQ c3
  clear c3
  obtain rfl:=Option.some.inj H
  go_enter Tryd.func72,Tryd.ntmps72
  go_wp2_with (first|((with_reducible refine zV (N:=2) rfl ?_);refine zW ?hg (N:=2) ?hd (cs:=#[.int .i64 a0_0,.int .i64 a0_1]) (t:=94) ?hr ?_;(case hd=>rfl);(case hg=>rfl);(case hr=>first|(go_simp;done)|(go_simp;rfl));intro gb424 hg w4 hbox hb;have n0_:=zA (zH (by repeat (first|(with_reducible first|exact HB.out|apply zD|apply zC|apply zE)|exact HB.out)) hb);have n1_:=zA (hbox);have n2_:=zA ((by rw [hg];exact (zG (by repeat (first|(with_reducible first|exact HB.out|apply zD|apply zC|apply zE)|exact HB.out))):w.heap.size ≤ gb424));have n3_:=zA ((by rw [hg];exact (zG (by repeat (first|(with_reducible first|exact HB.out|apply zD|apply zC|apply zE)|exact HB.out))):w.heap.size ≤ gb424));clear HB;have HB:=n0_;have BK424:=n1_;have GW424:=n2_;have GE424:=n3_;clear n0_ n1_ n2_ n3_;clear hb hbox hg;have hcz5_0:w4.cell? ⟨gb424,0,none⟩ = some (.int .i64 a0_0):=(zI BK424.out 0).trans rfl;have hcz5_1:w4.cell? ⟨gb424,1,none⟩ = some (.int .i64 a0_1):=(zI BK424.out 1).trans rfl;have hfz5_0:=zJ BK424.out 0;have hfz5_1:=zJ BK424.out 1))
  go_ret
  exact ⟨by first|rfl|(simp [errW_none,errW_some] <;> rfl)|(simp [*,errW_none,errW_some] <;> rfl),by repeat (first|(with_reducible first|exact HB.out|apply zD|apply zC|apply zE|refine zF ?_ GE424.out)|exact HB.out)⟩
 ·rw [if_neg c3] at H
  have c3b0:decide (a0_0 < 8) = false:=zR c3
  clear c3
  by_cases c6:a0_0 = 13
  ·rw [if_pos c6] at H
   have c6b0:(a0_0 == 13) = true:=beq_iff_eq.mpr c6
   have c6b1:(a0_0 != 13) = false:=bne_eq_false_iff_eq.mpr c6
   clear c6
   by_cases c7:a0_1 < 0
   ·rw [if_pos c7] at H
    have c7b0:decide (a0_1 < 0) = true:=zQ c7
    clear c7
    obtain rfl:=Option.some.inj H
    go_enter Tryd.func72,Tryd.ntmps72
    go_wp2_with (first|((with_reducible refine zV (N:=2) rfl ?_);refine zW ?hg (N:=2) ?hd (cs:=#[.int .i64 a0_0,.int .i64 a0_1]) (t:=94) ?hr ?_;(case hd=>rfl);(case hg=>rfl);(case hr=>first|(go_simp;done)|(go_simp;rfl));intro gb424 hg w8 hbox hb;have n0_:=zA (zH (by repeat (first|(with_reducible first|exact HB.out|apply zD|apply zC|apply zE)|exact HB.out)) hb);have n1_:=zA (hbox);have n2_:=zA ((by rw [hg];exact (zG (by repeat (first|(with_reducible first|exact HB.out|apply zD|apply zC|apply zE)|exact HB.out))):w.heap.size ≤ gb424));have n3_:=zA ((by rw [hg];exact (zG (by repeat (first|(with_reducible first|exact HB.out|apply zD|apply zC|apply zE)|exact HB.out))):w.heap.size ≤ gb424));clear HB;have HB:=n0_;have BK424:=n1_;have GW424:=n2_;have GE424:=n3_;clear n0_ n1_ n2_ n3_;clear hb hbox hg;have hcz9_0:w8.cell? ⟨gb424,0,none⟩ = some (.int .i64 a0_0):=(zI BK424.out 0).trans rfl;have hcz9_1:w8.cell? ⟨gb424,1,none⟩ = some (.int .i64 a0_1):=(zI BK424.out 1).trans rfl;have hfz9_0:=zJ BK424.out 0;have hfz9_1:=zJ BK424.out 1))
    go_ret
    exact ⟨by first|rfl|(simp [errW_none,errW_some] <;> rfl)|(simp [*,errW_none,errW_some] <;> rfl),by repeat (first|(with_reducible first|exact HB.out|apply zD|apply zC|apply zE|refine zF ?_ GE424.out)|exact HB.out)⟩
   ·rw [if_neg c7] at H
    have c7b0:decide (a0_1 < 0) = false:=zR c7
    clear c7
    by_cases c10:a0_1 ≥ a1
    ·rw [if_pos c10] at H
     have c10b0:decide (a1 ≤ a0_1) = true:=zQ c10
     clear c10
     obtain rfl:=Option.some.inj H
     go_enter Tryd.func72,Tryd.ntmps72
     go_wp2_with (first|((with_reducible refine zV (N:=2) rfl ?_);refine zW ?hg (N:=2) ?hd (cs:=#[.int .i64 a0_0,.int .i64 a0_1]) (t:=94) ?hr ?_;(case hd=>rfl);(case hg=>rfl);(case hr=>first|(go_simp;done)|(go_simp;rfl));intro gb424 hg w11 hbox hb;have n0_:=zA (zH (by repeat (first|(with_reducible first|exact HB.out|apply zD|apply zC|apply zE)|exact HB.out)) hb);have n1_:=zA (hbox);have n2_:=zA ((by rw [hg];exact (zG (by repeat (first|(with_reducible first|exact HB.out|apply zD|apply zC|apply zE)|exact HB.out))):w.heap.size ≤ gb424));have n3_:=zA ((by rw [hg];exact (zG (by repeat (first|(with_reducible first|exact HB.out|apply zD|apply zC|apply zE)|exact HB.out))):w.heap.size ≤ gb424));clear HB;have HB:=n0_;have BK424:=n1_;have GW424:=n2_;have GE424:=n3_;clear n0_ n1_ n2_ n3_;clear hb hbox hg;have hcz12_0:w11.cell? ⟨gb424,0,none⟩ = some (.int .i64 a0_0):=(zI BK424.out 0).trans rfl;have hcz12_1:w11.cell? ⟨gb424,1,none⟩ = some (.int .i64 a0_1):=(zI BK424.out 1).trans rfl;have hfz12_0:=zJ BK424.out 0;have hfz12_1:=zJ BK424.out 1))
     go_ret
     exact ⟨by first|rfl|(simp [errW_none,errW_some] <;> rfl)|(simp [*,errW_none,errW_some] <;> rfl),by repeat (first|(with_reducible first|exact HB.out|apply zD|apply zC|apply zE|refine zF ?_ GE424.out)|exact HB.out)⟩
    ·rw [if_neg c10] at H
     have c10b0:decide (a1 ≤ a0_1) = false:=zR c10
     clear c10
     obtain rfl:=Option.some.inj H
     go_enter Tryd.func72,Tryd.ntmps72
     go_wp2_with (first|((with_reducible refine zV (N:=2) rfl ?_);refine zW ?hg (N:=2) ?hd (cs:=#[.int .i64 a0_0,.int .i64 a0_1]) (t:=94) ?hr ?_;(case hd=>rfl);(case hg=>rfl);(case hr=>first|(go_simp;done)|(go_simp;rfl));intro gb424 hg w13 hbox hb;have n0_:=zA (zH (by repeat (first|(with_reducible first|exact HB.out|apply zD|apply zC|apply zE)|exact HB.out)) hb);have n1_:=zA (hbox);have n2_:=zA ((by rw [hg];exact (zG (by repeat (first|(with_reducible first|exact HB.out|apply zD|apply zC|apply zE)|exact HB.out))):w.heap.size ≤ gb424));have n3_:=zA ((by rw [hg];exact (zG (by repeat (first|(with_reducible first|exact HB.out|apply zD|apply zC|apply zE)|exact HB.out))):w.heap.size ≤ gb424));clear HB;have HB:=n0_;have BK424:=n1_;have GW424:=n2_;have GE424:=n3_;clear n0_ n1_ n2_ n3_;clear hb hbox hg;have hcz14_0:w13.cell? ⟨gb424,0,none⟩ = some (.int .i64 a0_0):=(zI BK424.out 0).trans rfl;have hcz14_1:w13.cell? ⟨gb424,1,none⟩ = some (.int .i64 a0_1):=(zI BK424.out 1).trans rfl;have hfz14_0:=zJ BK424.out 0;have hfz14_1:=zJ BK424.out 1))
     go_ret
     exact ⟨by first|rfl|(simp [errW_none,errW_some] <;> rfl)|(simp [*,errW_none,errW_some] <;> rfl),by repeat (first|(with_reducible first|exact HB.out|apply zD|apply zC|apply zE|refine zF ?_ GE424.out)|exact HB.out)⟩
  ·rw [if_neg c6] at H
   have c6b0:(a0_0 == 13) = false:=beq_eq_false_iff_ne.mpr c6
   have c6b1:(a0_0 != 13) = true:=bne_iff_ne.mpr c6
   by_cases c15:a0_1 = 0
   ·rw [if_pos c15] at H
    have c15b0:(a0_1 == 0) = true:=beq_iff_eq.mpr c15
    have c15b1:(a0_1 != 0) = false:=bne_eq_false_iff_eq.mpr c15
    clear c15
    obtain rfl:=Option.some.inj H
    go_enter Tryd.func72,Tryd.ntmps72
    go_wp2_with (first|((with_reducible refine zV (N:=2) rfl ?_);refine zW ?hg (N:=2) ?hd (cs:=#[.int .i64 a0_0,.int .i64 a0_1]) (t:=94) ?hr ?_;(case hd=>rfl);(case hg=>rfl);(case hr=>first|(go_simp;done)|(go_simp;rfl));intro gb424 hg w16 hbox hb;have n0_:=zA (zH (by repeat (first|(with_reducible first|exact HB.out|apply zD|apply zC|apply zE)|exact HB.out)) hb);have n1_:=zA (hbox);have n2_:=zA ((by rw [hg];exact (zG (by repeat (first|(with_reducible first|exact HB.out|apply zD|apply zC|apply zE)|exact HB.out))):w.heap.size ≤ gb424));have n3_:=zA ((by rw [hg];exact (zG (by repeat (first|(with_reducible first|exact HB.out|apply zD|apply zC|apply zE)|exact HB.out))):w.heap.size ≤ gb424));clear HB;have HB:=n0_;have BK424:=n1_;have GW424:=n2_;have GE424:=n3_;clear n0_ n1_ n2_ n3_;clear hb hbox hg;have hcz17_0:w16.cell? ⟨gb424,0,none⟩ = some (.int .i64 a0_0):=(zI BK424.out 0).trans rfl;have hcz17_1:w16.cell? ⟨gb424,1,none⟩ = some (.int .i64 a0_1):=(zI BK424.out 1).trans rfl;have hfz17_0:=zJ BK424.out 0;have hfz17_1:=zJ BK424.out 1))
    go_ret
    exact ⟨by first|rfl|(simp [errW_none,errW_some] <;> rfl)|(simp [*,errW_none,errW_some] <;> rfl),by repeat (first|(with_reducible first|exact HB.out|apply zD|apply zC|apply zE|refine zF ?_ GE424.out)|exact HB.out)⟩
   ·rw [if_neg c15] at H
    have c15b0:(a0_1 == 0) = false:=beq_eq_false_iff_ne.mpr c15
    have c15b1:(a0_1 != 0) = true:=bne_iff_ne.mpr c15
    obtain rfl:=Option.some.inj H
    go_enter Tryd.func72,Tryd.ntmps72
    go_wp2_with (first|((with_reducible refine zV (N:=2) rfl ?_);refine zW ?hg (N:=2) ?hd (cs:=#[.int .i64 a0_0,.int .i64 a0_1]) (t:=94) ?hr ?_;(case hd=>rfl);(case hg=>rfl);(case hr=>first|(go_simp;done)|(go_simp;rfl));intro gb424 hg w18 hbox hb;have n0_:=zA (zH (by repeat (first|(with_reducible first|exact HB.out|apply zD|apply zC|apply zE)|exact HB.out)) hb);have n1_:=zA (hbox);have n2_:=zA ((by rw [hg];exact (zG (by repeat (first|(with_reducible first|exact HB.out|apply zD|apply zC|apply zE)|exact HB.out))):w.heap.size ≤ gb424));have n3_:=zA ((by rw [hg];exact (zG (by repeat (first|(with_reducible first|exact HB.out|apply zD|apply zC|apply zE)|exact HB.out))):w.heap.size ≤ gb424));clear HB;have HB:=n0_;have BK424:=n1_;have GW424:=n2_;have GE424:=n3_;clear n0_ n1_ n2_ n3_;clear hb hbox hg;have hcz19_0:w18.cell? ⟨gb424,0,none⟩ = some (.int .i64 a0_0):=(zI BK424.out 0).trans rfl;have hcz19_1:w18.cell? ⟨gb424,1,none⟩ = some (.int .i64 a0_1):=(zI BK424.out 1).trans rfl;have hfz19_0:=zJ BK424.out 0;have hfz19_1:=zJ BK424.out 1))
    go_ret
    exact ⟨by first|rfl|(simp [errW_none,errW_some] <;> rfl)|(simp [*,errW_none,errW_some] <;> rfl),by repeat (first|(with_reducible first|exact HB.out|apply zD|apply zC|apply zE|refine zF ?_ GE424.out)|exact HB.out)⟩
def logic_ahead.f (a0:Int):Option (Bool):=if a0 ≥ 14 then (some (decide (a0 ≤ 18))) else (some false)
set_option maxHeartbeats 8000000 in
set_option maxRecDepth 100000 in
theorem logic_ahead.calls (a0:Int) (r:Bool) (w:World) (h:logic_ahead.f a0 = some r) :
  Calls Tryd.prog 73 #[.int .i64 a0] w fun e w'=>e = .returned (.bool r)∧Drawn0 w w':=by
 have H:(if a0 ≥ 14 then (some (decide (a0 ≤ 18))) else (some false)) = some r:=h
 clear h
 by_cases c2:a0 ≥ 14
 ·rw [if_pos c2] at H
  have c2b0:decide (14 ≤ a0) = true:=zQ c2
  clear c2
  obtain rfl:=Option.some.inj H
  go_enter Tryd.func73,Tryd.ntmps73
  go_wp2
  go_ret
  exact ⟨by first|rfl|(simp;done)|(simp [*];done),by repeat (first|exact Drawn0.refl _|apply Drawn0.step)⟩
 ·rw [if_neg c2] at H
  have c2b0:decide (14 ≤ a0) = false:=zR c2
  clear c2
  obtain rfl:=Option.some.inj H
  go_enter Tryd.func73,Tryd.ntmps73
  go_wp2
  go_ret
  exact ⟨by first|rfl|(simp;done)|(simp [*];done),by repeat (first|exact Drawn0.refl _|apply Drawn0.step)⟩
mutual
def logic_Check.j0:Nat → List (S94) → Int → Bool → Option (Int)
 | 0,_,_,_=>none
 | k + 1,x0,x1,x16=>if x16 = true then (some 2) else ((polish_Ends.f x0).bind fun bt425=>(if bt425.2 = 0 then (logic_Check.l0 k x1 0 x0 (x0.length:Int) 0) else (some bt425.2)))
def logic_Check.l0:Nat → Int → Int → List (S94) → Int → Int → Option (Int)
 | 0,_,_,_,_,_=>none
 | k + 1,x1,x7,x25,x26,x27=>if x27 < x26 then (if 0 ≤ x27 then (if x27 < (x25.length:Int) then ((logic_fits.f ((rd_T94 x25 x27).f0) ((rd_T94 x25 x27).f1) x1).bind fun t431=>(if t431 = 0 then ((logic_ahead.f ((rd_T94 x25 x27).f0)).bind fun t432=>(if t432 = true then (logic_Check.l0 k x1 (wrap64 (x7 + 1)) x25 x26 (wrap64 (x27 + 1))) else (logic_Check.l0 k x1 x7 x25 x26 (wrap64 (x27 + 1))))) else (some t431))) else (none)) else (none)) else (if x7 > 6 then (some 1) else (some 0))
end
def logic_Check.f (k:Nat) (l0:List (S94)) (a1:Int):Option (Int):=if a1 < 0 then (logic_Check.j0 k l0 a1 true) else (logic_Check.j0 k l0 a1 (decide (a1 > 6)))
theorem logic_Check.mono_l:∀ k,(∀ y0 y1 y2,LeO (logic_Check.j0 k y0 y1 y2) (logic_Check.j0 (k + 1) y0 y1 y2))∧(∀ y0 y1 y2 y3 y4,LeO (logic_Check.l0 k y0 y1 y2 y3 y4) (logic_Check.l0 (k + 1) y0 y1 y2 y3 y4))
 | 0=>⟨fun _ _ _ r h=>by simp [logic_Check.j0] at h,fun _ _ _ _ _ r h=>by simp [logic_Check.l0] at h⟩
 | k + 1=>by
  obtain ⟨ih0,ih1⟩:=logic_Check.mono_l k
  refine ⟨?_,?_⟩
  ·intro y0 y1 y2
   unfold logic_Check.j0
   repeat' first
   | (with_reducible exact ih0 _ _ _)
   | (with_reducible exact ih1 _ _ _ _ _)
   | (with_reducible exact LeO.refl _)
   | (with_reducible exact LeO.none _)
   | (with_reducible refine LeO.ite ?_ ?_)
   | (with_reducible refine LeO.bind ?_ (fun _=>?_))
   | exact ih0 _ _ _
   | exact ih1 _ _ _ _ _
   | exact LeO.none _
   | refine LeO.ite ?_ ?_
   | refine LeO.bind ?_ (fun _=>?_)
  ·intro y0 y1 y2 y3 y4
   unfold logic_Check.l0
   repeat' first
   | (with_reducible exact ih0 _ _ _)
   | (with_reducible exact ih1 _ _ _ _ _)
   | (with_reducible exact LeO.refl _)
   | (with_reducible exact LeO.none _)
   | (with_reducible refine LeO.ite ?_ ?_)
   | (with_reducible refine LeO.bind ?_ (fun _=>?_))
   | exact ih0 _ _ _
   | exact ih1 _ _ _ _ _
   | exact LeO.none _
   | refine LeO.ite ?_ ?_
   | refine LeO.bind ?_ (fun _=>?_)
theorem logic_Check.mono:∀ a0 a1 k,LeO (logic_Check.f k a0 a1) (logic_Check.f (k + 1) a0 a1):=by
 intro a0 a1 k
 obtain ⟨ih0,ih1⟩:=logic_Check.mono_l k
 unfold logic_Check.f
 repeat' first
   | (with_reducible exact ih0 _ _ _)
   | (with_reducible exact ih1 _ _ _ _ _)
   | (with_reducible exact LeO.refl _)
   | (with_reducible exact LeO.none _)
   | (with_reducible refine LeO.ite ?_ ?_)
   | (with_reducible refine LeO.bind ?_ (fun _=>?_))
   | exact ih0 _ _ _
   | exact ih1 _ _ _ _ _
   | exact LeO.none _
   | refine LeO.ite ?_ ?_
   | refine LeO.bind ?_ (fun _=>?_)
set_option maxHeartbeats 8000000 in
set_option maxRecDepth 100000 in
theorem logic_Check.calls (k:Nat) (A0:Option Addr) (c0:Nat) (l0:List (S94)) (a1:Int) (r:Int) (w:World) (hr0:Kd.C k94 w A0 l0.length l0) (hc0:l0.length ≤ c0) (hL:LaidG w) (h:logic_Check.f k l0 a1 = some r) :
  Calls Tryd.prog 57 #[.slice A0 l0.length c0,.int .i64 a1] w fun e w'=>e = .returned (.int .i64 r)∧Below w.heap.size w w':=by
 have HLd:=zA hL
 clear hL
 have hu94:=Tryd.underlying94
 have HR0:=zA hr0
 have HC0:=zA hc0
 clear hr0 hc0
 have HB:=zA (Below.refl w.heap.size w)
 have H:(if a1 < 0 then (logic_Check.j0 k l0 a1 true) else (logic_Check.j0 k l0 a1 (decide (a1 > 6)))) = some r:=h
 clear h
 have HC3:=zA H
 clear H
 go_enter Tryd.func57,Tryd.ntmps57
 go_upto_region 1 with (fail)
 go_cut [16] (fun v16 wc=>∃ (kq:Nat) (x16_2:Bool),v16 = .bool x16_2∧Aside0 (logic_Check.j0 kq l0 a1 x16_2 = some r)∧Aside0 (kq ≤ k)∧Aside0 (Below w.heap.size w wc))
 case first =>
  have H:=HC3.out
  clear HC3
  by_cases c4:a1 < 0
  ·rw [if_pos c4] at H
   have c4b0:decide (a1 < 0) = true:=zQ c4
   clear c4
   (first|rw [c4b0]|(simp only [i64_w,i32_w];rw [c4b0])|skip)
   have H':=zA H
   clear H
   go_wp2
   go_meet
   case rel=>exact ⟨_,(true),(by first|rfl|(simp;done)|(simp [*];done)),H',⟨by first|omega|exact Nat.le_refl _⟩,⟨by repeat (first|(with_reducible first|exact HB.out|apply zD|apply zC|apply zE)|exact HB.out)⟩⟩
  ·rw [if_neg c4] at H
   have c4b0:decide (a1 < 0) = false:=zR c4
   clear c4
   (first|rw [c4b0]|(simp only [i64_w,i32_w];rw [c4b0])|skip)
   have H':=zA H
   clear H
   go_wp2
   go_meet
   case rel=>exact ⟨_,(decide (a1 > 6)),(by first|rfl|(simp;done)|(simp [*];done)),H',⟨by first|omega|exact Nat.le_refl _⟩,⟨by repeat (first|(with_reducible first|exact HB.out|apply zD|apply zC|apply zE)|exact HB.out)⟩⟩
 case rest =>
  clear HC3
  try clear p2
  try clear c4
  try clear c4b0
  obtain ⟨kq,x16_2,rfl,HA,HJ2,HB⟩:=hcut
  cases kq with
  | zero=>exact absurd HA.out (by simp [logic_Check.j0])
  | succ kj2 =>
   have H:=HA.out
   clear HA
   simp only [logic_Check.j0] at H
   by_cases c5:x16_2 = true
   ·subst c5
    have H1:(some 2) = some r:=by rw [if_pos rfl] at H;exact H
    clear H
    have H:=H1
    clear H1
    obtain rfl:=Option.some.inj H
    go_wp2
    go_ret
    exact ⟨by first|rfl|(simp [errW_none,errW_some] <;> rfl)|(simp [*,errW_none,errW_some] <;> rfl),by repeat (first|(with_reducible first|exact HB.out|apply zD|apply zC|apply zE)|exact HB.out)⟩
   ·replace c5:=Bool.eq_false_iff.mpr c5
    subst c5
    have H1:((polish_Ends.f l0).bind fun bt425=>(if bt425.2 = 0 then (logic_Check.l0 kj2 a1 0 l0 (l0.length:Int) 0) else (some bt425.2))) = some r:=by rw [if_neg (show ¬ (false = true) by decide)] at H;exact H
    clear H
    have H:=H1
    clear H1
    replace H:=zb.mp H
    obtain ⟨⟨t425,t426⟩,A60,H⟩:=H
    replace H:(if t426 = 0 then (logic_Check.l0 kj2 a1 0 l0 (l0.length:Int) 0) else (some t426)) = some r:=H
    have A6:=zA A60
    clear A60
    by_cases c7:t426 = 0
    ·rw [if_pos c7] at H
     have c7b0:(t426 == 0) = true:=beq_iff_eq.mpr c7
     have c7b1:(t426 != 0) = false:=bne_eq_false_iff_eq.mpr c7
     clear c7
     have H':=zA H
     clear H
     go_wp2_with (first|((with_reducible refine zU (f:=71) rfl ?_);refine goesL_ (some 19) rfl rfl Tryd.func71 (by kernel_rfl) rfl #[.slice A0 l0.length c0] rfl (by (try simp only [zx,zy,zz]);first|done|rfl|(simp only [zd,zt];rfl)) ?_;(with_reducible refine (polish_Ends.calls _ _ l0 t425 t426 _ ?side1 ?side2 ?side3 A6.out).mono ?_);(case side1=>repeat (first|exact (zT HR0.out HB.out)|(with_reducible refine Kd.C_alloc ?_ _)|(with_reducible refine Kd.C_drewN ?_ _)|(with_reducible refine Kd.C_drew ?_)));(case side2=>exact HC0.out);(case side3=>first|exact LaidG.below HLd.out (by repeat (first|(with_reducible first|exact HB.out|apply zD|apply zC|apply zE)|exact HB.out))|(refine LaidG.below HLd.out ?_;repeat (with_reducible first|exact HB.out|exact Below.refl _ _|apply zD|apply zC|apply zE);done));rintro e w8 ⟨v427,rfl,ho0,hb⟩;refine ⟨_,rfl,?_⟩;have n0_:=zA (Kd.R_lower ho0 (zG (by repeat (first|(with_reducible first|exact HB.out|apply zD|apply zC|apply zE)|exact HB.out))));have n1_:=zA (zH (by repeat (first|(with_reducible first|exact HB.out|apply zD|apply zC|apply zE)|exact HB.out)) hb);clear HB;have HO428:=n0_;have HB:=n1_;clear n0_ n1_;(try clear hb);(try clear hb2);(try clear hk);(try clear hi);(try clear ho0)))
     go_loopg [7,27] kj2 (fun kq v7 v27 w'=>∃ (x7_2:Int) (x27_2:Int),v7 = .int .i64 x7_2∧v27 = .int .i64 x27_2∧Aside0 (logic_Check.l0 kq a1 x7_2 l0 (l0.length:Int) x27_2 = some r)∧Aside0 (kq ≤ kj2)∧Aside0 (Below w.heap.size w w'))
     case atStart=>exact ⟨(0),(0),(by first|rfl|(simp;done)|(simp [*];done)),(by first|rfl|(simp;done)|(simp [*];done)),H',⟨Nat.le_refl _⟩,⟨by repeat (first|(with_reducible first|exact HB.out|apply zD|apply zC|apply zE)|exact HB.out)⟩⟩
     case round =>
      clear H'
      try clear p2
      try clear c4
      try clear c4b0
      try clear c5
      try clear c7
      try clear c7b0
      try clear c7b1
      try clear p2
      obtain ⟨x7_2,x27_2,rfl,rfl,HA,HK2,HB⟩:=hrel
      cases gk with
      | zero=>exact absurd HA.out (by simp [logic_Check.l0])
      | succ k2 =>
       have H:=HA.out
       clear HA
       simp only [logic_Check.l0] at H
       by_cases c9:x27_2 < (l0.length:Int)
       ·rw [if_pos c9] at H
        have c9b0:decide (x27_2 < (l0.length:Int)) = true:=zQ c9
        clear c9
        by_cases c10:0 ≤ x27_2
        ·rw [if_pos c10] at H
         have c10b0:decide (0 ≤ x27_2) = true:=zQ c10
         clear c10
         by_cases c11:x27_2 < (l0.length:Int)
         ·rw [if_pos c11] at H
          have c11b0:decide (x27_2 < (l0.length:Int)) = true:=zQ c11
          clear c11
          replace H:=zb.mp H
          obtain ⟨t431,A120,H⟩:=H
          replace H:(if t431 = 0 then ((logic_ahead.f ((rd_T94 l0 x27_2).f0)).bind fun t432=>(if t432 = true then (logic_Check.l0 k2 a1 (wrap64 (x7_2 + 1)) l0 (l0.length:Int) (wrap64 (x27_2 + 1))) else (logic_Check.l0 k2 a1 x7_2 l0 (l0.length:Int) (wrap64 (x27_2 + 1))))) else (some t431)) = some r:=H
          have A12:=zA A120
          clear A120
          by_cases c13:t431 = 0
          ·rw [if_pos c13] at H
           have c13b0:(t431 == 0) = true:=beq_iff_eq.mpr c13
           have c13b1:(t431 != 0) = false:=bne_eq_false_iff_eq.mpr c13
           clear c13
           replace H:=zb.mp H
           obtain ⟨t432,A140,H⟩:=H
           replace H:(if t432 = true then (logic_Check.l0 k2 a1 (wrap64 (x7_2 + 1)) l0 (l0.length:Int) (wrap64 (x27_2 + 1))) else (logic_Check.l0 k2 a1 x7_2 l0 (l0.length:Int) (wrap64 (x27_2 + 1)))) = some r:=H
           have A14:=zA A140
           clear A140
           by_cases c15:t432 = true
           ·subst c15
            have H1:(logic_Check.l0 k2 a1 (wrap64 (x7_2 + 1)) l0 (l0.length:Int) (wrap64 (x27_2 + 1))) = some r:=by rw [if_pos rfl] at H;exact H
            clear H
            have H:=H1
            clear H1
            have H':=zA H
            clear H
            have p429:0 ≤ (x27_2:Int):=zP (by assumption)
            have q429:x27_2 < (l0.length:Int):=zP (by assumption)
            obtain ⟨ad429,e429,hx429_0,hx429_1⟩:=at_T94 HR0.out x27_2 p429 q429
            cases e429
            replace hx429_0:=(HB.out.cell (zB w _ hx429_0)).trans hx429_0
            replace hx429_1:=(HB.out.cell (zB w _ hx429_1)).trans hx429_1
            replace p429:=eq_true p429
            replace q429:=eq_true q429
            go_wp2_with (first|((with_reducible refine zV (N:=9) rfl ?_);refine zW ?hg (N:=9) ?hd (cs:=#[.int .i64 0,.int .i64 0]) (t:=94) ?hr ?_;(case hd=>rfl);(case hg=>rfl);(case hr=>first|(go_simp;done)|(go_simp;rfl));intro gb430 hg w16 hbox hb;have n0_:=zA (zH (by repeat (first|(with_reducible first|exact HB.out|apply zD|apply zC|apply zE)|exact HB.out)) hb);have n1_:=zA (hbox);have n2_:=zA ((by rw [hg];exact (zG (by repeat (first|(with_reducible first|exact HB.out|apply zD|apply zC|apply zE)|exact HB.out))):w.heap.size ≤ gb430));have n3_:=zA ((by rw [hg];exact (zG (by repeat (first|(with_reducible first|exact HB.out|apply zD|apply zC|apply zE)|exact HB.out))):w.heap.size ≤ gb430));clear HB;have HB:=n0_;have BK430:=n1_;have GW430:=n2_;have GE430:=n3_;clear n0_ n1_ n2_ n3_;clear hb hbox hg;have hcz17_0:w16.cell? ⟨gb430,0,none⟩ = some (.int .i64 0):=(zI BK430.out 0).trans rfl;have hcz17_1:w16.cell? ⟨gb430,1,none⟩ = some (.int .i64 0):=(zI BK430.out 1).trans rfl;have hfz17_0:=zJ BK430.out 0;have hfz17_1:=zJ BK430.out 1)|((with_reducible refine zU (f:=72) rfl ?_);refine goesL_ (some 33) rfl rfl Tryd.func72 (by kernel_rfl) rfl #[.agg #[.int .i64 ((rd_T94 l0 x27_2).f0),.int .i64 ((rd_T94 l0 x27_2).f1)],.int .i64 a1] rfl (by (try simp only [zx,zy,zz]);first|done|rfl|(simp only [zd,zt];rfl)) ?_;(with_reducible refine (logic_fits.calls ((rd_T94 l0 x27_2).f0) ((rd_T94 l0 x27_2).f1) a1 t431 _ A12.out).mono ?_);rintro e w18 ⟨rfl,hb⟩;refine ⟨_,rfl,?_⟩;have n0_:=zA (zN (g:=gb430) (o:=.cells #[.int .i64 ((rd_T94 l0 x27_2).f0),.int .i64 ((rd_T94 l0 x27_2).f1)] 94 (0,0)) (by (with_reducible repeat (first|refine zL ?_ _|refine zM ?_|refine zK ?_ _));refine zO (cs:=#[.int .i64 ((rd_T94 l0 x27_2).f0),.int .i64 0]) ?_ 1 _ rfl;(with_reducible repeat (first|refine zL ?_ _|refine zM ?_|refine zK ?_ _));refine zO (cs:=#[.int .i64 0,.int .i64 0]) ?_ 0 _ rfl;(with_reducible repeat (first|refine zL ?_ _|refine zM ?_|refine zK ?_ _));exact BK430.out) hb);have n1_:=zA (zH (by repeat (first|(with_reducible first|exact HB.out|apply zD|apply zC|apply zE|refine zF ?_ GE430.out)|exact HB.out)) hb);clear BK430;clear HB;have BK430:=n0_;have HB:=n1_;clear n0_ n1_;(try clear hb);(try clear hb2);(try clear hk);(try clear hi);have hcz19_0:w18.cell? ⟨gb430,0,none⟩ = some (.int .i64 ((rd_T94 l0 x27_2).f0)):=(zI BK430.out 0).trans rfl;have hcz19_1:w18.cell? ⟨gb430,1,none⟩ = some (.int .i64 ((rd_T94 l0 x27_2).f1)):=(zI BK430.out 1).trans rfl;have hfz19_0:=zJ BK430.out 0;have hfz19_1:=zJ BK430.out 1)|((with_reducible refine zU (f:=73) rfl ?_);refine goesL_ (some 39) rfl rfl Tryd.func73 (by kernel_rfl) rfl #[.int .i64 ((rd_T94 l0 x27_2).f0)] rfl (by (try simp only [zx,zy,zz]);first|done|rfl|(simp only [zd,zt];rfl)) ?_;(with_reducible refine (logic_ahead.calls ((rd_T94 l0 x27_2).f0) true _ A14.out).mono ?_);rintro e w' ⟨rfl,⟨nd,rfl⟩⟩;refine ⟨_,rfl,?_⟩))
            go_roundg k2
            case measure=>have:=HJ2.out;have:=HK2.out;omega
            case rel=>exact ⟨(wrap64 (x7_2 + 1)),(wrap64 (x27_2 + 1)),(by first|rfl|(simp;done)|(simp [*];done)),(by first|rfl|(simp;done)|(simp [*];done)),H',⟨by have:=HJ2.out;have:=HK2.out;omega⟩,⟨by repeat (first|(with_reducible first|exact HB.out|apply zD|apply zC|apply zE|refine zF ?_ GE430.out)|exact HB.out)⟩⟩
           ·replace c15:=Bool.eq_false_iff.mpr c15
            subst c15
            have H1:(logic_Check.l0 k2 a1 x7_2 l0 (l0.length:Int) (wrap64 (x27_2 + 1))) = some r:=by rw [if_neg (show ¬ (false = true) by decide)] at H;exact H
            clear H
            have H:=H1
            clear H1
            have H':=zA H
            clear H
            have p429:0 ≤ (x27_2:Int):=zP (by assumption)
            have q429:x27_2 < (l0.length:Int):=zP (by assumption)
            obtain ⟨ad429,e429,hx429_0,hx429_1⟩:=at_T94 HR0.out x27_2 p429 q429
            cases e429
            replace hx429_0:=(HB.out.cell (zB w _ hx429_0)).trans hx429_0
            replace hx429_1:=(HB.out.cell (zB w _ hx429_1)).trans hx429_1
            replace p429:=eq_true p429
            replace q429:=eq_true q429
            go_wp2_with (first|((with_reducible refine zV (N:=9) rfl ?_);refine zW ?hg (N:=9) ?hd (cs:=#[.int .i64 0,.int .i64 0]) (t:=94) ?hr ?_;(case hd=>rfl);(case hg=>rfl);(case hr=>first|(go_simp;done)|(go_simp;rfl));intro gb430 hg w20 hbox hb;have n0_:=zA (zH (by repeat (first|(with_reducible first|exact HB.out|apply zD|apply zC|apply zE)|exact HB.out)) hb);have n1_:=zA (hbox);have n2_:=zA ((by rw [hg];exact (zG (by repeat (first|(with_reducible first|exact HB.out|apply zD|apply zC|apply zE)|exact HB.out))):w.heap.size ≤ gb430));have n3_:=zA ((by rw [hg];exact (zG (by repeat (first|(with_reducible first|exact HB.out|apply zD|apply zC|apply zE)|exact HB.out))):w.heap.size ≤ gb430));clear HB;have HB:=n0_;have BK430:=n1_;have GW430:=n2_;have GE430:=n3_;clear n0_ n1_ n2_ n3_;clear hb hbox hg;have hcz21_0:w20.cell? ⟨gb430,0,none⟩ = some (.int .i64 0):=(zI BK430.out 0).trans rfl;have hcz21_1:w20.cell? ⟨gb430,1,none⟩ = some (.int .i64 0):=(zI BK430.out 1).trans rfl;have hfz21_0:=zJ BK430.out 0;have hfz21_1:=zJ BK430.out 1)|((with_reducible refine zU (f:=72) rfl ?_);refine goesL_ (some 33) rfl rfl Tryd.func72 (by kernel_rfl) rfl #[.agg #[.int .i64 ((rd_T94 l0 x27_2).f0),.int .i64 ((rd_T94 l0 x27_2).f1)],.int .i64 a1] rfl (by (try simp only [zx,zy,zz]);first|done|rfl|(simp only [zd,zt];rfl)) ?_;(with_reducible refine (logic_fits.calls ((rd_T94 l0 x27_2).f0) ((rd_T94 l0 x27_2).f1) a1 t431 _ A12.out).mono ?_);rintro e w22 ⟨rfl,hb⟩;refine ⟨_,rfl,?_⟩;have n0_:=zA (zN (g:=gb430) (o:=.cells #[.int .i64 ((rd_T94 l0 x27_2).f0),.int .i64 ((rd_T94 l0 x27_2).f1)] 94 (0,0)) (by (with_reducible repeat (first|refine zL ?_ _|refine zM ?_|refine zK ?_ _));refine zO (cs:=#[.int .i64 ((rd_T94 l0 x27_2).f0),.int .i64 0]) ?_ 1 _ rfl;(with_reducible repeat (first|refine zL ?_ _|refine zM ?_|refine zK ?_ _));refine zO (cs:=#[.int .i64 0,.int .i64 0]) ?_ 0 _ rfl;(with_reducible repeat (first|refine zL ?_ _|refine zM ?_|refine zK ?_ _));exact BK430.out) hb);have n1_:=zA (zH (by repeat (first|(with_reducible first|exact HB.out|apply zD|apply zC|apply zE|refine zF ?_ GE430.out)|exact HB.out)) hb);clear BK430;clear HB;have BK430:=n0_;have HB:=n1_;clear n0_ n1_;(try clear hb);(try clear hb2);(try clear hk);(try clear hi);have hcz23_0:w22.cell? ⟨gb430,0,none⟩ = some (.int .i64 ((rd_T94 l0 x27_2).f0)):=(zI BK430.out 0).trans rfl;have hcz23_1:w22.cell? ⟨gb430,1,none⟩ = some (.int .i64 ((rd_T94 l0 x27_2).f1)):=(zI BK430.out 1).trans rfl;have hfz23_0:=zJ BK430.out 0;have hfz23_1:=zJ BK430.out 1)|((with_reducible refine zU (f:=73) rfl ?_);refine goesL_ (some 39) rfl rfl Tryd.func73 (by kernel_rfl) rfl #[.int .i64 ((rd_T94 l0 x27_2).f0)] rfl (by (try simp only [zx,zy,zz]);first|done|rfl|(simp only [zd,zt];rfl)) ?_;(with_reducible refine (logic_ahead.calls ((rd_T94 l0 x27_2).f0) false _ A14.out).mono ?_);rintro e w' ⟨rfl,⟨nd,rfl⟩⟩;refine ⟨_,rfl,?_⟩))
            go_roundg k2
            case measure=>have:=HJ2.out;have:=HK2.out;omega
            case rel=>exact ⟨(x7_2),(wrap64 (x27_2 + 1)),(by first|rfl|(simp;done)|(simp [*];done)),(by first|rfl|(simp;done)|(simp [*];done)),H',⟨by have:=HJ2.out;have:=HK2.out;omega⟩,⟨by repeat (first|(with_reducible first|exact HB.out|apply zD|apply zC|apply zE|refine zF ?_ GE430.out)|exact HB.out)⟩⟩
          ·rw [if_neg c13] at H
           have c13b0:(t431 == 0) = false:=beq_eq_false_iff_ne.mpr c13
           have c13b1:(t431 != 0) = true:=bne_iff_ne.mpr c13
           obtain rfl:=Option.some.inj H
           have p429:0 ≤ (x27_2:Int):=zP (by assumption)
           have q429:x27_2 < (l0.length:Int):=zP (by assumption)
           obtain ⟨ad429,e429,hx429_0,hx429_1⟩:=at_T94 HR0.out x27_2 p429 q429
           cases e429
           replace hx429_0:=(HB.out.cell (zB w _ hx429_0)).trans hx429_0
           replace hx429_1:=(HB.out.cell (zB w _ hx429_1)).trans hx429_1
           replace p429:=eq_true p429
           replace q429:=eq_true q429
           go_wp2_with (first|((with_reducible refine zV (N:=9) rfl ?_);refine zW ?hg (N:=9) ?hd (cs:=#[.int .i64 0,.int .i64 0]) (t:=94) ?hr ?_;(case hd=>rfl);(case hg=>rfl);(case hr=>first|(go_simp;done)|(go_simp;rfl));intro gb430 hg w24 hbox hb;have n0_:=zA (zH (by repeat (first|(with_reducible first|exact HB.out|apply zD|apply zC|apply zE)|exact HB.out)) hb);have n1_:=zA (hbox);have n2_:=zA ((by rw [hg];exact (zG (by repeat (first|(with_reducible first|exact HB.out|apply zD|apply zC|apply zE)|exact HB.out))):w.heap.size ≤ gb430));have n3_:=zA ((by rw [hg];exact (zG (by repeat (first|(with_reducible first|exact HB.out|apply zD|apply zC|apply zE)|exact HB.out))):w.heap.size ≤ gb430));clear HB;have HB:=n0_;have BK430:=n1_;have GW430:=n2_;have GE430:=n3_;clear n0_ n1_ n2_ n3_;clear hb hbox hg;have hcz25_0:w24.cell? ⟨gb430,0,none⟩ = some (.int .i64 0):=(zI BK430.out 0).trans rfl;have hcz25_1:w24.cell? ⟨gb430,1,none⟩ = some (.int .i64 0):=(zI BK430.out 1).trans rfl;have hfz25_0:=zJ BK430.out 0;have hfz25_1:=zJ BK430.out 1)|((with_reducible refine zU (f:=72) rfl ?_);refine goesL_ (some 33) rfl rfl Tryd.func72 (by kernel_rfl) rfl #[.agg #[.int .i64 ((rd_T94 l0 x27_2).f0),.int .i64 ((rd_T94 l0 x27_2).f1)],.int .i64 a1] rfl (by (try simp only [zx,zy,zz]);first|done|rfl|(simp only [zd,zt];rfl)) ?_;(with_reducible refine (logic_fits.calls ((rd_T94 l0 x27_2).f0) ((rd_T94 l0 x27_2).f1) a1 t431 _ A12.out).mono ?_);rintro e w26 ⟨rfl,hb⟩;refine ⟨_,rfl,?_⟩;have n0_:=zA (zN (g:=gb430) (o:=.cells #[.int .i64 ((rd_T94 l0 x27_2).f0),.int .i64 ((rd_T94 l0 x27_2).f1)] 94 (0,0)) (by (with_reducible repeat (first|refine zL ?_ _|refine zM ?_|refine zK ?_ _));refine zO (cs:=#[.int .i64 ((rd_T94 l0 x27_2).f0),.int .i64 0]) ?_ 1 _ rfl;(with_reducible repeat (first|refine zL ?_ _|refine zM ?_|refine zK ?_ _));refine zO (cs:=#[.int .i64 0,.int .i64 0]) ?_ 0 _ rfl;(with_reducible repeat (first|refine zL ?_ _|refine zM ?_|refine zK ?_ _));exact BK430.out) hb);have n1_:=zA (zH (by repeat (first|(with_reducible first|exact HB.out|apply zD|apply zC|apply zE|refine zF ?_ GE430.out)|exact HB.out)) hb);clear BK430;clear HB;have BK430:=n0_;have HB:=n1_;clear n0_ n1_;(try clear hb);(try clear hb2);(try clear hk);(try clear hi)))
           go_ret
           exact ⟨by first|rfl|(simp [errW_none,errW_some] <;> rfl)|(simp [*,errW_none,errW_some] <;> rfl),by repeat (first|(with_reducible first|exact HB.out|apply zD|apply zC|apply zE|refine zF ?_ GE430.out)|exact HB.out)⟩
         ·rw [if_neg c11] at H
          exact absurd H (by simp)
        ·rw [if_neg c10] at H
         exact absurd H (by simp)
       ·rw [if_neg c9] at H
        have c9b0:decide (x27_2 < (l0.length:Int)) = false:=zR c9
        clear c9
        by_cases c27:x7_2 > 6
        ·rw [if_pos c27] at H
         have c27b0:decide (6 < x7_2) = true:=zQ c27
         clear c27
         obtain rfl:=Option.some.inj H
         go_wp2
         go_ret
         exact ⟨by first|rfl|(simp [errW_none,errW_some] <;> rfl)|(simp [*,errW_none,errW_some] <;> rfl),by repeat (first|(with_reducible first|exact HB.out|apply zD|apply zC|apply zE)|exact HB.out)⟩
        ·rw [if_neg c27] at H
         have c27b0:decide (6 < x7_2) = false:=zR c27
         clear c27
         obtain rfl:=Option.some.inj H
         go_wp2
         go_ret
         exact ⟨by first|rfl|(simp [errW_none,errW_some] <;> rfl)|(simp [*,errW_none,errW_some] <;> rfl),by repeat (first|(with_reducible first|exact HB.out|apply zD|apply zC|apply zE)|exact HB.out)⟩
    ·rw [if_neg c7] at H
     have c7b0:(t426 == 0) = false:=beq_eq_false_iff_ne.mpr c7
     have c7b1:(t426 != 0) = true:=bne_iff_ne.mpr c7
     obtain rfl:=Option.some.inj H
     go_wp2_with (first|((with_reducible refine zU (f:=71) rfl ?_);refine goesL_ (some 19) rfl rfl Tryd.func71 (by kernel_rfl) rfl #[.slice A0 l0.length c0] rfl (by (try simp only [zx,zy,zz]);first|done|rfl|(simp only [zd,zt];rfl)) ?_;(with_reducible refine (polish_Ends.calls _ _ l0 t425 t426 _ ?side1 ?side2 ?side3 A6.out).mono ?_);(case side1=>repeat (first|exact (zT HR0.out HB.out)|(with_reducible refine Kd.C_alloc ?_ _)|(with_reducible refine Kd.C_drewN ?_ _)|(with_reducible refine Kd.C_drew ?_)));(case side2=>exact HC0.out);(case side3=>first|exact LaidG.below HLd.out (by repeat (first|(with_reducible first|exact HB.out|apply zD|apply zC|apply zE)|exact HB.out))|(refine LaidG.below HLd.out ?_;repeat (with_reducible first|exact HB.out|exact Below.refl _ _|apply zD|apply zC|apply zE);done));rintro e w28 ⟨v427,rfl,ho0,hb⟩;refine ⟨_,rfl,?_⟩;have n0_:=zA (Kd.R_lower ho0 (zG (by repeat (first|(with_reducible first|exact HB.out|apply zD|apply zC|apply zE)|exact HB.out))));have n1_:=zA (zH (by repeat (first|(with_reducible first|exact HB.out|apply zD|apply zC|apply zE)|exact HB.out)) hb);clear HB;have HO428:=n0_;have HB:=n1_;clear n0_ n1_;(try clear hb);(try clear hb2);(try clear hk);(try clear hi);(try clear ho0)))
     go_ret
     exact ⟨by first|rfl|(simp [errW_none,errW_some] <;> rfl)|(simp [*,errW_none,errW_some] <;> rfl),by repeat (first|(with_reducible first|exact HB.out|apply zD|apply zC|apply zE)|exact HB.out)⟩
def product_Check.f (k:Nat) (l0_0:List (S74)) (l0_1:List (S68)) (l0_2:List (List (S94))) (l0_3:List (S94)):Option (Int):=(model_Props.f k l0_0 l0_1 l0_2).bind fun t434=>(if t434 = 0 then ((logic_Check.f k l0_3 (l0_2.length:Int)).bind fun t435=>(some t435)) else (some t434))
theorem product_Check.mono:∀ a0 a1 a2 a3 k,LeO (product_Check.f k a0 a1 a2 a3) (product_Check.f (k + 1) a0 a1 a2 a3):=by
 intro a0 a1 a2 a3 k
 unfold product_Check.f
 repeat' first
   | (with_reducible exact logic_Check.mono _ _ _)
   | (with_reducible exact model_Props.mono _ _ _ _)
   | (with_reducible exact LeO.refl _)
   | (with_reducible exact LeO.none _)
   | (with_reducible refine LeO.ite ?_ ?_)
   | (with_reducible refine LeO.bind ?_ (fun _=>?_))
   | exact logic_Check.mono _ _ _
   | exact model_Props.mono _ _ _ _
   | exact LeO.none _
   | refine LeO.ite ?_ ?_
   | refine LeO.bind ?_ (fun _=>?_)
set_option maxHeartbeats 8000000 in
set_option maxRecDepth 100000 in
theorem product_Check.calls (k:Nat) (A0_0:Option Addr) (c0_0:Nat) (l0_0:List (S74)) (A0_1:Option Addr) (c0_1:Nat) (l0_1:List (S68)) (A0_2:Option Addr) (c0_2:Nat) (l0_2:List (List (S94))) (A0_3:Option Addr) (c0_3:Nat) (l0_3:List (S94)) (r:Int) (w:World) (hr0_0:Kd.C k74 w A0_0 l0_0.length l0_0) (hc0_0:l0_0.length ≤ c0_0) (hr0_1:Kd.C k68 w A0_1 l0_1.length l0_1) (hc0_1:l0_1.length ≤ c0_1) (hr0_2:Kd.C (Kd.slice 94 k94) w A0_2 l0_2.length l0_2) (hc0_2:l0_2.length ≤ c0_2) (hr0_3:Kd.C k94 w A0_3 l0_3.length l0_3) (hc0_3:l0_3.length ≤ c0_3) (hL:LaidG w) (h:product_Check.f k l0_0 l0_1 l0_2 l0_3 = some r) :
  Calls Tryd.prog 33 #[.agg #[.slice A0_0 l0_0.length c0_0,.slice A0_1 l0_1.length c0_1,.slice A0_2 l0_2.length c0_2,.slice A0_3 l0_3.length c0_3]] w fun e w'=>e = .returned (.int .i64 r)∧Below w.heap.size w w':=by
 have HLd:=zA hL
 clear hL
 have hu47:=Tryd.underlying47
 have hu25:=Tryd.underlying25
 have HR0_0:=zA hr0_0
 have HC0_0:=zA hc0_0
 clear hr0_0 hc0_0
 have HR0_1:=zA hr0_1
 have HC0_1:=zA hc0_1
 clear hr0_1 hc0_1
 have HR0_2:=zA hr0_2
 have HC0_2:=zA hc0_2
 clear hr0_2 hc0_2
 have HR0_3:=zA hr0_3
 have HC0_3:=zA hc0_3
 clear hr0_3 hc0_3
 have HB:=zA (Below.refl w.heap.size w)
 have H:((model_Props.f k l0_0 l0_1 l0_2).bind fun t434=>(if t434 = 0 then ((logic_Check.f k l0_3 (l0_2.length:Int)).bind fun t435=>(some t435)) else (some t434))) = some r:=h
 clear h
 replace H:=zb.mp H
 obtain ⟨t434,A20,H⟩:=H
 replace H:(if t434 = 0 then ((logic_Check.f k l0_3 (l0_2.length:Int)).bind fun t435=>(some t435)) else (some t434)) = some r:=H
 have A2:=zA A20
 clear A20
 by_cases c3:t434 = 0
 ·rw [if_pos c3] at H
  have c3b0:(t434 == 0) = true:=beq_iff_eq.mpr c3
  have c3b1:(t434 != 0) = false:=bne_eq_false_iff_eq.mpr c3
  clear c3
  replace H:=zb.mp H
  obtain ⟨t435,A40,H⟩:=H
  replace H:(some t435) = some r:=H
  have A4:=zA A40
  clear A40
  obtain rfl:=Option.some.inj H
  go_enter Tryd.func33,Tryd.ntmps33
  go_wp2_with (first|((with_reducible refine zV (N:=1) rfl ?_);refine zW ?hg (N:=1) ?hd (cs:=#[.slice A0_0 l0_0.length c0_0,.slice A0_1 l0_1.length c0_1,.slice A0_2 l0_2.length c0_2,.slice A0_3 l0_3.length c0_3]) (t:=47) ?hr ?_;(case hd=>rfl);(case hg=>rfl);(case hr=>first|(go_simp;done)|(go_simp;rfl));intro gb433 hg w5 hbox hb;have n0_:=zA (zH (by repeat (first|(with_reducible first|exact HB.out|apply zD|apply zC|apply zE)|exact HB.out)) hb);have n1_:=zA (hbox);have n2_:=zA ((by rw [hg];exact (zG (by repeat (first|(with_reducible first|exact HB.out|apply zD|apply zC|apply zE)|exact HB.out))):w.heap.size ≤ gb433));have n3_:=zA ((by rw [hg];exact (zG (by repeat (first|(with_reducible first|exact HB.out|apply zD|apply zC|apply zE)|exact HB.out))):w.heap.size ≤ gb433));clear HB;have HB:=n0_;have BK433:=n1_;have GW433:=n2_;have GE433:=n3_;clear n0_ n1_ n2_ n3_;clear hb hbox hg;have hcz6_0:w5.cell? ⟨gb433,0,none⟩ = some (.slice A0_0 l0_0.length c0_0):=(zI BK433.out 0).trans rfl;have hcz6_1:w5.cell? ⟨gb433,1,none⟩ = some (.slice A0_1 l0_1.length c0_1):=(zI BK433.out 1).trans rfl;have hcz6_2:w5.cell? ⟨gb433,2,none⟩ = some (.slice A0_2 l0_2.length c0_2):=(zI BK433.out 2).trans rfl;have hcz6_3:w5.cell? ⟨gb433,3,none⟩ = some (.slice A0_3 l0_3.length c0_3):=(zI BK433.out 3).trans rfl;have hfz6_0:=zJ BK433.out 0;have hfz6_1:=zJ BK433.out 1;have hfz6_2:=zJ BK433.out 2;have hfz6_3:=zJ BK433.out 3)|((with_reducible refine zU (f:=21) rfl ?_);refine goesL_ (some 8) rfl rfl Tryd.func21 (by kernel_rfl) rfl #[.agg #[.slice A0_0 l0_0.length c0_0,.slice A0_1 l0_1.length c0_1],.slice A0_2 l0_2.length c0_2] rfl (by (try simp only [zx,zy,zz]);first|done|rfl|(simp only [zd,zt];rfl)) ?_;(with_reducible refine (model_Props.calls k _ _ l0_0 _ _ l0_1 _ _ l0_2 t434 _ ?side1 ?side2 ?side3 ?side4 ?side5 ?side6 ?side7 A2.out).mono ?_);(case side1=>repeat (first|exact (zT HR0_0.out HB.out)|(with_reducible refine Kd.C_alloc ?_ _)|(with_reducible refine Kd.C_drewN ?_ _)|(with_reducible refine Kd.C_drew ?_)));(case side2=>exact HC0_0.out);(case side3=>repeat (first|exact (zT HR0_1.out HB.out)|(with_reducible refine Kd.C_alloc ?_ _)|(with_reducible refine Kd.C_drewN ?_ _)|(with_reducible refine Kd.C_drew ?_)));(case side4=>exact HC0_1.out);(case side5=>repeat (first|exact (zT HR0_2.out HB.out)|(with_reducible refine Kd.C_alloc ?_ _)|(with_reducible refine Kd.C_drewN ?_ _)|(with_reducible refine Kd.C_drew ?_)));(case side6=>exact HC0_2.out);(case side7=>first|exact LaidG.below HLd.out (by repeat (first|(with_reducible first|exact HB.out|apply zD|apply zC|apply zE|refine zF ?_ GE433.out)|exact HB.out))|(refine LaidG.below HLd.out ?_;repeat (with_reducible first|exact HB.out|exact Below.refl _ _|apply zD|apply zC|apply zE);done));rintro e w7 ⟨rfl,hb⟩;refine ⟨_,rfl,?_⟩;have n0_:=zA (zN (g:=gb433) (o:=.cells #[.slice A0_0 l0_0.length c0_0,.slice A0_1 l0_1.length c0_1,.slice A0_2 l0_2.length c0_2,.slice A0_3 l0_3.length c0_3] 47 (0,0)) (by (with_reducible repeat (first|refine zL ?_ _|refine zM ?_|refine zK ?_ _));exact BK433.out) hb);have n1_:=zA (zH (by repeat (first|(with_reducible first|exact HB.out|apply zD|apply zC|apply zE|refine zF ?_ GE433.out)|exact HB.out)) hb);clear BK433;clear HB;have BK433:=n0_;have HB:=n1_;clear n0_ n1_;(try clear hb);(try clear hb2);(try clear hk);(try clear hi);have hcz8_0:w7.cell? ⟨gb433,0,none⟩ = some (.slice A0_0 l0_0.length c0_0):=(zI BK433.out 0).trans rfl;have hcz8_1:w7.cell? ⟨gb433,1,none⟩ = some (.slice A0_1 l0_1.length c0_1):=(zI BK433.out 1).trans rfl;have hcz8_2:w7.cell? ⟨gb433,2,none⟩ = some (.slice A0_2 l0_2.length c0_2):=(zI BK433.out 2).trans rfl;have hcz8_3:w7.cell? ⟨gb433,3,none⟩ = some (.slice A0_3 l0_3.length c0_3):=(zI BK433.out 3).trans rfl;have hfz8_0:=zJ BK433.out 0;have hfz8_1:=zJ BK433.out 1;have hfz8_2:=zJ BK433.out 2;have hfz8_3:=zJ BK433.out 3)|((with_reducible refine zU (f:=57) rfl ?_);refine goesL_ (some 17) rfl rfl Tryd.func57 (by kernel_rfl) rfl #[.slice A0_3 l0_3.length c0_3,.int .i64 (l0_2.length:Int)] rfl (by (try simp only [zx,zy,zz]);first|done|rfl|(simp only [zd,zt];rfl)) ?_;(with_reducible refine (logic_Check.calls k _ _ l0_3 (l0_2.length:Int) t435 _ ?side1 ?side2 ?side3 A4.out).mono ?_);(case side1=>repeat (first|exact (zT HR0_3.out HB.out)|(with_reducible refine Kd.C_alloc ?_ _)|(with_reducible refine Kd.C_drewN ?_ _)|(with_reducible refine Kd.C_drew ?_)));(case side2=>exact HC0_3.out);(case side3=>first|exact LaidG.below HLd.out (by repeat (first|(with_reducible first|exact HB.out|apply zD|apply zC|apply zE|refine zF ?_ GE433.out)|exact HB.out))|(refine LaidG.below HLd.out ?_;repeat (with_reducible first|exact HB.out|exact Below.refl _ _|apply zD|apply zC|apply zE);done));rintro e w9 ⟨rfl,hb⟩;refine ⟨_,rfl,?_⟩;have n0_:=zA (zN (g:=gb433) (o:=.cells #[.slice A0_0 l0_0.length c0_0,.slice A0_1 l0_1.length c0_1,.slice A0_2 l0_2.length c0_2,.slice A0_3 l0_3.length c0_3] 47 (0,0)) (by (with_reducible repeat (first|refine zL ?_ _|refine zM ?_|refine zK ?_ _));exact BK433.out) hb);have n1_:=zA (zH (by repeat (first|(with_reducible first|exact HB.out|apply zD|apply zC|apply zE|refine zF ?_ GE433.out)|exact HB.out)) hb);clear BK433;clear HB;have BK433:=n0_;have HB:=n1_;clear n0_ n1_;(try clear hb);(try clear hb2);(try clear hk);(try clear hi)))
  go_ret
  exact ⟨by first|rfl|(simp [errW_none,errW_some] <;> rfl)|(simp [*,errW_none,errW_some] <;> rfl),by repeat (first|(with_reducible first|exact HB.out|apply zD|apply zC|apply zE|refine zF ?_ GE433.out)|exact HB.out)⟩
 ·rw [if_neg c3] at H
  have c3b0:(t434 == 0) = false:=beq_eq_false_iff_ne.mpr c3
  have c3b1:(t434 != 0) = true:=bne_iff_ne.mpr c3
  obtain rfl:=Option.some.inj H
  go_enter Tryd.func33,Tryd.ntmps33
  go_wp2_with (first|((with_reducible refine zV (N:=1) rfl ?_);refine zW ?hg (N:=1) ?hd (cs:=#[.slice A0_0 l0_0.length c0_0,.slice A0_1 l0_1.length c0_1,.slice A0_2 l0_2.length c0_2,.slice A0_3 l0_3.length c0_3]) (t:=47) ?hr ?_;(case hd=>rfl);(case hg=>rfl);(case hr=>first|(go_simp;done)|(go_simp;rfl));intro gb433 hg w10 hbox hb;have n0_:=zA (zH (by repeat (first|(with_reducible first|exact HB.out|apply zD|apply zC|apply zE)|exact HB.out)) hb);have n1_:=zA (hbox);have n2_:=zA ((by rw [hg];exact (zG (by repeat (first|(with_reducible first|exact HB.out|apply zD|apply zC|apply zE)|exact HB.out))):w.heap.size ≤ gb433));have n3_:=zA ((by rw [hg];exact (zG (by repeat (first|(with_reducible first|exact HB.out|apply zD|apply zC|apply zE)|exact HB.out))):w.heap.size ≤ gb433));clear HB;have HB:=n0_;have BK433:=n1_;have GW433:=n2_;have GE433:=n3_;clear n0_ n1_ n2_ n3_;clear hb hbox hg;have hcz11_0:w10.cell? ⟨gb433,0,none⟩ = some (.slice A0_0 l0_0.length c0_0):=(zI BK433.out 0).trans rfl;have hcz11_1:w10.cell? ⟨gb433,1,none⟩ = some (.slice A0_1 l0_1.length c0_1):=(zI BK433.out 1).trans rfl;have hcz11_2:w10.cell? ⟨gb433,2,none⟩ = some (.slice A0_2 l0_2.length c0_2):=(zI BK433.out 2).trans rfl;have hcz11_3:w10.cell? ⟨gb433,3,none⟩ = some (.slice A0_3 l0_3.length c0_3):=(zI BK433.out 3).trans rfl;have hfz11_0:=zJ BK433.out 0;have hfz11_1:=zJ BK433.out 1;have hfz11_2:=zJ BK433.out 2;have hfz11_3:=zJ BK433.out 3)|((with_reducible refine zU (f:=21) rfl ?_);refine goesL_ (some 8) rfl rfl Tryd.func21 (by kernel_rfl) rfl #[.agg #[.slice A0_0 l0_0.length c0_0,.slice A0_1 l0_1.length c0_1],.slice A0_2 l0_2.length c0_2] rfl (by (try simp only [zx,zy,zz]);first|done|rfl|(simp only [zd,zt];rfl)) ?_;(with_reducible refine (model_Props.calls k _ _ l0_0 _ _ l0_1 _ _ l0_2 t434 _ ?side1 ?side2 ?side3 ?side4 ?side5 ?side6 ?side7 A2.out).mono ?_);(case side1=>repeat (first|exact (zT HR0_0.out HB.out)|(with_reducible refine Kd.C_alloc ?_ _)|(with_reducible refine Kd.C_drewN ?_ _)|(with_reducible refine Kd.C_drew ?_)));(case side2=>exact HC0_0.out);(case side3=>repeat (first|exact (zT HR0_1.out HB.out)|(with_reducible refine Kd.C_alloc ?_ _)|(with_reducible refine Kd.C_drewN ?_ _)|(with_reducible refine Kd.C_drew ?_)));(case side4=>exact HC0_1.out);(case side5=>repeat (first|exact (zT HR0_2.out HB.out)|(with_reducible refine Kd.C_alloc ?_ _)|(with_reducible refine Kd.C_drewN ?_ _)|(with_reducible refine Kd.C_drew ?_)));(case side6=>exact HC0_2.out);(case side7=>first|exact LaidG.below HLd.out (by repeat (first|(with_reducible first|exact HB.out|apply zD|apply zC|apply zE|refine zF ?_ GE433.out)|exact HB.out))|(refine LaidG.below HLd.out ?_;repeat (with_reducible first|exact HB.out|exact Below.refl _ _|apply zD|apply zC|apply zE);done));rintro e w12 ⟨rfl,hb⟩;refine ⟨_,rfl,?_⟩;have n0_:=zA (zN (g:=gb433) (o:=.cells #[.slice A0_0 l0_0.length c0_0,.slice A0_1 l0_1.length c0_1,.slice A0_2 l0_2.length c0_2,.slice A0_3 l0_3.length c0_3] 47 (0,0)) (by (with_reducible repeat (first|refine zL ?_ _|refine zM ?_|refine zK ?_ _));exact BK433.out) hb);have n1_:=zA (zH (by repeat (first|(with_reducible first|exact HB.out|apply zD|apply zC|apply zE|refine zF ?_ GE433.out)|exact HB.out)) hb);clear BK433;clear HB;have BK433:=n0_;have HB:=n1_;clear n0_ n1_;(try clear hb);(try clear hb2);(try clear hk);(try clear hi)))
  go_ret
  exact ⟨by first|rfl|(simp [errW_none,errW_some] <;> rfl)|(simp [*,errW_none,errW_some] <;> rfl),by repeat (first|(with_reducible first|exact HB.out|apply zD|apply zC|apply zE|refine zF ?_ GE433.out)|exact HB.out)⟩
def foretellref_looksAhead.f (a0:Int):Option (Bool):=(foretellref_In.f a0 14 18).bind fun t436=>(some t436)
set_option maxHeartbeats 8000000 in
set_option maxRecDepth 100000 in
theorem foretellref_looksAhead.calls (a0:Int) (r:Bool) (w:World) (h:foretellref_looksAhead.f a0 = some r) :
  Calls Tryd.prog 75 #[.int .i64 a0] w fun e w'=>e = .returned (.bool r)∧Drawn0 w w':=by
 have H:((foretellref_In.f a0 14 18).bind fun t436=>(some t436)) = some r:=h
 clear h
 replace H:=zb.mp H
 obtain ⟨t436,A20,H⟩:=H
 replace H:(some t436) = some r:=H
 have A2:=zA A20
 clear A20
 obtain rfl:=Option.some.inj H
 go_enter Tryd.func75,Tryd.ntmps75
 go_wp2_with (first|((with_reducible refine zU (f:=56) rfl ?_);refine goesL_ (some 4) rfl rfl Tryd.func56 (by kernel_rfl) rfl #[.int .i64 a0,.int .i64 14,.int .i64 18] rfl (by (try simp only [zx,zy,zz]);first|done|rfl|(simp only [zd,zt];rfl)) ?_;(with_reducible refine (foretellref_In.calls a0 14 18 t436 _ A2.out).mono ?_);rintro e w' ⟨rfl,⟨nd,rfl⟩⟩;refine ⟨_,rfl,?_⟩))
 go_ret
 exact ⟨by first|rfl|(simp;done)|(simp [*];done),by repeat (first|exact Drawn0.refl _|apply Drawn0.step)⟩
mutual
def foretellref_FormulaFault.l0:Nat → List (S94) → Int → Int → Int → Option (Int)
 | 0,_,_,_,_=>none
 | k + 1,x0,x1,x7,x8=>if x8 < (x0.length:Int) then (if 0 ≤ x8 then (if ((rd_T94 x0 x8).f0) < 8 then (some 13) else (if ((rd_T94 x0 x8).f0) = 13 then (foretellref_FormulaFault.j1 k x0 x1 x7 x8 (wrap64 (x1 - 1))) else (foretellref_FormulaFault.j1 k x0 x1 x7 x8 0))) else (none)) else (if x7 > 6 then (some 1) else (some 0))
def foretellref_FormulaFault.j1:Nat → List (S94) → Int → Int → Int → Int → Option (Int)
 | 0,_,_,_,_,_=>none
 | k + 1,x0,x1,x7,x8,x9=>if 0 ≤ x8 then (if x8 < (x0.length:Int) then ((foretellref_In.f ((rd_T94 x0 x8).f1) 0 x9).bind fun t445=>(if t445 = true then ((foretellref_looksAhead.f ((rd_T94 x0 x8).f0)).bind fun t447=>(if t447 = true then (foretellref_FormulaFault.l0 k x0 x1 (wrap64 (x7 + 1)) (wrap64 (x8 + 1))) else (foretellref_FormulaFault.l0 k x0 x1 x7 (wrap64 (x8 + 1))))) else (some 2))) else (none)) else (none)
end
def foretellref_FormulaFault.f (k:Nat) (l0:List (S94)) (a1:Int):Option (Int):=(foretellref_In.f a1 0 6).bind fun t437=>(if t437 = true then ((foretellref_EndsOf.f k l0).bind fun bt438=>(if bt438.2 = 0 then (foretellref_FormulaFault.l0 k l0 a1 0 0) else (some bt438.2))) else (some 2))
theorem foretellref_FormulaFault.mono_l:∀ k,(∀ y0 y1 y2 y3,LeO (foretellref_FormulaFault.l0 k y0 y1 y2 y3) (foretellref_FormulaFault.l0 (k + 1) y0 y1 y2 y3))∧(∀ y0 y1 y2 y3 y4,LeO (foretellref_FormulaFault.j1 k y0 y1 y2 y3 y4) (foretellref_FormulaFault.j1 (k + 1) y0 y1 y2 y3 y4))
 | 0=>⟨fun _ _ _ _ r h=>by simp [foretellref_FormulaFault.l0] at h,fun _ _ _ _ _ r h=>by simp [foretellref_FormulaFault.j1] at h⟩
 | k + 1=>by
  obtain ⟨ih0,ih1⟩:=foretellref_FormulaFault.mono_l k
  refine ⟨?_,?_⟩
  ·intro y0 y1 y2 y3
   unfold foretellref_FormulaFault.l0
   repeat' first
   | (with_reducible exact ih0 _ _ _ _)
   | (with_reducible exact ih1 _ _ _ _ _)
   | (with_reducible exact foretellref_EndsOf.mono _ _)
   | (with_reducible exact LeO.refl _)
   | (with_reducible exact LeO.none _)
   | (with_reducible refine LeO.ite ?_ ?_)
   | (with_reducible refine LeO.bind ?_ (fun _=>?_))
   | exact ih0 _ _ _ _
   | exact ih1 _ _ _ _ _
   | exact foretellref_EndsOf.mono _ _
   | exact LeO.none _
   | refine LeO.ite ?_ ?_
   | refine LeO.bind ?_ (fun _=>?_)
  ·intro y0 y1 y2 y3 y4
   unfold foretellref_FormulaFault.j1
   repeat' first
   | (with_reducible exact ih0 _ _ _ _)
   | (with_reducible exact ih1 _ _ _ _ _)
   | (with_reducible exact foretellref_EndsOf.mono _ _)
   | (with_reducible exact LeO.refl _)
   | (with_reducible exact LeO.none _)
   | (with_reducible refine LeO.ite ?_ ?_)
   | (with_reducible refine LeO.bind ?_ (fun _=>?_))
   | exact ih0 _ _ _ _
   | exact ih1 _ _ _ _ _
   | exact foretellref_EndsOf.mono _ _
   | exact LeO.none _
   | refine LeO.ite ?_ ?_
   | refine LeO.bind ?_ (fun _=>?_)
theorem foretellref_FormulaFault.mono:∀ a0 a1 k,LeO (foretellref_FormulaFault.f k a0 a1) (foretellref_FormulaFault.f (k + 1) a0 a1):=by
 intro a0 a1 k
 obtain ⟨ih0,ih1⟩:=foretellref_FormulaFault.mono_l k
 unfold foretellref_FormulaFault.f
 repeat' first
   | (with_reducible exact ih0 _ _ _ _)
   | (with_reducible exact ih1 _ _ _ _ _)
   | (with_reducible exact foretellref_EndsOf.mono _ _)
   | (with_reducible exact LeO.refl _)
   | (with_reducible exact LeO.none _)
   | (with_reducible refine LeO.ite ?_ ?_)
   | (with_reducible refine LeO.bind ?_ (fun _=>?_))
   | exact ih0 _ _ _ _
   | exact ih1 _ _ _ _ _
   | exact foretellref_EndsOf.mono _ _
   | exact LeO.none _
   | refine LeO.ite ?_ ?_
   | refine LeO.bind ?_ (fun _=>?_)
set_option maxHeartbeats 8000000 in
set_option maxRecDepth 100000 in
theorem foretellref_FormulaFault.calls (k:Nat) (A0:Option Addr) (c0:Nat) (l0:List (S94)) (a1:Int) (r:Int) (w:World) (hr0:Kd.C k94 w A0 l0.length l0) (hc0:l0.length ≤ c0) (h:foretellref_FormulaFault.f k l0 a1 = some r) :
  Calls Tryd.prog 58 #[.slice A0 l0.length c0,.int .i64 a1] w fun e w'=>e = .returned (.int .i64 r)∧Below w.heap.size w w':=by
 have HR0:=zA hr0
 have HC0:=zA hc0
 clear hr0 hc0
 have HB:=zA (Below.refl w.heap.size w)
 have H:((foretellref_In.f a1 0 6).bind fun t437=>(if t437 = true then ((foretellref_EndsOf.f k l0).bind fun bt438=>(if bt438.2 = 0 then (foretellref_FormulaFault.l0 k l0 a1 0 0) else (some bt438.2))) else (some 2))) = some r:=h
 clear h
 replace H:=zb.mp H
 obtain ⟨t437,A30,H⟩:=H
 replace H:(if t437 = true then ((foretellref_EndsOf.f k l0).bind fun bt438=>(if bt438.2 = 0 then (foretellref_FormulaFault.l0 k l0 a1 0 0) else (some bt438.2))) else (some 2)) = some r:=H
 have A3:=zA A30
 clear A30
 by_cases c4:t437 = true
 ·subst c4
  have H1:((foretellref_EndsOf.f k l0).bind fun bt438=>(if bt438.2 = 0 then (foretellref_FormulaFault.l0 k l0 a1 0 0) else (some bt438.2))) = some r:=by rw [if_pos rfl] at H;exact H
  clear H
  have H:=H1
  clear H1
  replace H:=zb.mp H
  obtain ⟨⟨t438,t439⟩,A50,H⟩:=H
  replace H:(if t439 = 0 then (foretellref_FormulaFault.l0 k l0 a1 0 0) else (some t439)) = some r:=H
  have A5:=zA A50
  clear A50
  by_cases c6:t439 = 0
  ·rw [if_pos c6] at H
   have c6b0:(t439 == 0) = true:=beq_iff_eq.mpr c6
   have c6b1:(t439 != 0) = false:=bne_eq_false_iff_eq.mpr c6
   clear c6
   have H':=zA H
   clear H
   go_enter Tryd.func58,Tryd.ntmps58
   go_wp2_with (first|((with_reducible refine zU (f:=56) rfl ?_);refine goesL_ (some 11) rfl rfl Tryd.func56 (by kernel_rfl) rfl #[.int .i64 a1,.int .i64 0,.int .i64 6] rfl (by (try simp only [zx,zy,zz]);first|done|rfl|(simp only [zd,zt];rfl)) ?_;(with_reducible refine (foretellref_In.calls a1 0 6 true _ A3.out).mono ?_);rintro e w' ⟨rfl,⟨nd,rfl⟩⟩;refine ⟨_,rfl,?_⟩)|((with_reducible refine zU (f:=74) rfl ?_);refine goesL_ (some 15) rfl rfl Tryd.func74 (by kernel_rfl) rfl #[.slice A0 l0.length c0] rfl (by (try simp only [zx,zy,zz]);first|done|rfl|(simp only [zd,zt];rfl)) ?_;(with_reducible refine (foretellref_EndsOf.calls k _ _ l0 t438 t439 _ ?side1 ?side2 A5.out).mono ?_);(case side1=>repeat (first|exact HR0.out|(with_reducible refine Kd.C_alloc ?_ _)|(with_reducible refine Kd.C_drewN ?_ _)|(with_reducible refine Kd.C_drew ?_)));(case side2=>exact HC0.out);rintro e w7 ⟨v440,rfl,ho0,hb⟩;refine ⟨_,rfl,?_⟩;have n0_:=zA (Kd.R_lower ho0 (zG (by repeat (first|(with_reducible first|exact HB.out|apply zD|apply zC|apply zE)|exact HB.out))));have n1_:=zA (zH (by repeat (first|(with_reducible first|exact HB.out|apply zD|apply zC|apply zE)|exact HB.out)) hb);clear HB;have HO441:=n0_;have HB:=n1_;clear n0_ n1_;(try clear hb);(try clear hb2);(try clear hk);(try clear hi);(try clear ho0)))
   go_loopg [7,8] k (fun kq v7 v8 w'=>∃ (x7_1:Int) (x8_1:Int),v7 = .int .i64 x7_1∧v8 = .int .i64 x8_1∧Aside0 (foretellref_FormulaFault.l0 kq l0 a1 x7_1 x8_1 = some r)∧Aside0 (kq ≤ k)∧Aside0 (Below w.heap.size w w'))
   case atStart=>exact ⟨(0),(0),(by first|rfl|(simp;done)|(simp [*];done)),(by first|rfl|(simp;done)|(simp [*];done)),H',⟨Nat.le_refl _⟩,⟨by repeat (first|(with_reducible first|exact HB.out|apply zD|apply zC|apply zE)|exact HB.out)⟩⟩
   case round =>
    clear H'
    try clear p2
    try clear c4
    try clear c5
    try clear c6
    try clear c6b0
    try clear c6b1
    try clear c7
    obtain ⟨x7_1,x8_1,rfl,rfl,HA,HK1,HB⟩:=hrel
    cases gk with
    | zero=>exact absurd HA.out (by simp [foretellref_FormulaFault.l0])
    | succ k1 =>
     have H:=HA.out
     clear HA
     simp only [foretellref_FormulaFault.l0] at H
     by_cases c8:x8_1 < (l0.length:Int)
     ·rw [if_pos c8] at H
      have c8b0:decide (x8_1 < (l0.length:Int)) = true:=zQ c8
      clear c8
      by_cases c9:0 ≤ x8_1
      ·rw [if_pos c9] at H
       have c9b0:decide (0 ≤ x8_1) = true:=zQ c9
       clear c9
       by_cases c10:((rd_T94 l0 x8_1).f0) < 8
       ·rw [if_pos c10] at H
        have c10b0:decide (((rd_T94 l0 x8_1).f0) < 8) = true:=zQ c10
        clear c10
        obtain rfl:=Option.some.inj H
        have p442:0 ≤ (x8_1:Int):=zP (by assumption)
        have q442:x8_1 < (l0.length:Int):=zP (by assumption)
        obtain ⟨ad442,e442,hx442_0,hx442_1⟩:=at_T94 HR0.out x8_1 p442 q442
        cases e442
        replace hx442_0:=(HB.out.cell (zB w _ hx442_0)).trans hx442_0
        replace hx442_1:=(HB.out.cell (zB w _ hx442_1)).trans hx442_1
        replace p442:=eq_true p442
        replace q442:=eq_true q442
        go_wp2
        go_ret
        exact ⟨by first|rfl|(simp [errW_none,errW_some] <;> rfl)|(simp [*,errW_none,errW_some] <;> rfl),by repeat (first|(with_reducible first|exact HB.out|apply zD|apply zC|apply zE)|exact HB.out)⟩
       ·rw [if_neg c10] at H
        have c10b0:decide (((rd_T94 l0 x8_1).f0) < 8) = false:=zR c10
        clear c10
        have HC11:=zA H
        clear H
        have p442:0 ≤ (x8_1:Int):=zP (by assumption)
        have q442:x8_1 < (l0.length:Int):=zP (by assumption)
        obtain ⟨ad442,e442,hx442_0,hx442_1⟩:=at_T94 HR0.out x8_1 p442 q442
        cases e442
        replace hx442_0:=(HB.out.cell (zB w _ hx442_0)).trans hx442_0
        replace hx442_1:=(HB.out.cell (zB w _ hx442_1)).trans hx442_1
        replace p442:=eq_true p442
        replace q442:=eq_true q442
        have p443:0 ≤ (x8_1:Int):=zP (by assumption)
        have q443:x8_1 < (l0.length:Int):=zP (by assumption)
        obtain ⟨ad443,e443,hx443_0,hx443_1⟩:=at_T94 HR0.out x8_1 p443 q443
        obtain rfl:ad442 = ad443:=(by injection e443)
        replace hx443_0:=(HB.out.cell (zB w _ hx443_0)).trans hx443_0
        replace hx443_1:=(HB.out.cell (zB w _ hx443_1)).trans hx443_1
        replace p443:=eq_true p443
        replace q443:=eq_true q443
        go_upto_if 38 with (fail)
        go_cut [9] (fun v9 wc=>∃ (kq:Nat) (x9_10:Int),v9 = .int .i64 x9_10∧Aside0 (foretellref_FormulaFault.j1 kq l0 a1 x7_1 x8_1 x9_10 = some r)∧Aside0 (kq ≤ k1)∧Aside0 (Below w.heap.size w wc))
        case first =>
         have H:=HC11.out
         clear HC11
         by_cases c12:((rd_T94 l0 x8_1).f0) = 13
         ·rw [if_pos c12] at H
          have c12b0:(((rd_T94 l0 x8_1).f0) == 13) = true:=beq_iff_eq.mpr c12
          have c12b1:(((rd_T94 l0 x8_1).f0) != 13) = false:=bne_eq_false_iff_eq.mpr c12
          clear c12
          (first|rw [c12b0]|(simp only [i64_w,i32_w];rw [c12b0])|skip)
          have H':=zA H
          clear H
          go_wp2
          go_meet
          case rel=>exact ⟨_,(wrap64 (a1 - 1)),(by first|rfl|(simp;done)|(simp [*];done)),H',⟨by have:=HK1.out;first|omega|exact Nat.le_refl _⟩,⟨by repeat (first|(with_reducible first|exact HB.out|apply zD|apply zC|apply zE)|exact HB.out)⟩⟩
         ·rw [if_neg c12] at H
          have c12b0:(((rd_T94 l0 x8_1).f0) == 13) = false:=beq_eq_false_iff_ne.mpr c12
          have c12b1:(((rd_T94 l0 x8_1).f0) != 13) = true:=bne_iff_ne.mpr c12
          (first|rw [c12b0]|(simp only [i64_w,i32_w];rw [c12b0])|skip)
          have H':=zA H
          clear H
          go_wp2
          go_meet
          case rel=>exact ⟨_,(0),(by first|rfl|(simp;done)|(simp [*];done)),H',⟨by have:=HK1.out;first|omega|exact Nat.le_refl _⟩,⟨by repeat (first|(with_reducible first|exact HB.out|apply zD|apply zC|apply zE)|exact HB.out)⟩⟩
        case rest =>
         clear HC11
         try clear c1
         try clear p2
         try clear c4
         try clear p4
         try clear q4
         try clear hx4
         try clear c5
         try clear c6
         try clear c6b0
         try clear c6b1
         try clear p6
         try clear c7
         try clear c8
         try clear c8b0
         try clear c9
         try clear c9b0
         try clear c10
         try clear c10b0
         try clear c12
         try clear c12b0
         try clear c12b1
         try clear hx442_0
         try clear hx442_1
         try clear hx443_0
         try clear hx443_1
         try clear p2
         try clear p442
         try clear p443
         try clear q442
         try clear q443
         obtain ⟨kq,x9_10,rfl,HA,HJ10,HB⟩:=hcut
         cases kq with
         | zero=>exact absurd HA.out (by simp [foretellref_FormulaFault.j1])
         | succ kj10 =>
          have H:=HA.out
          clear HA
          simp only [foretellref_FormulaFault.j1] at H
          by_cases c13:0 ≤ x8_1
          ·rw [if_pos c13] at H
           have c13b0:decide (0 ≤ x8_1) = true:=zQ c13
           clear c13
           by_cases c14:x8_1 < (l0.length:Int)
           ·rw [if_pos c14] at H
            have c14b0:decide (x8_1 < (l0.length:Int)) = true:=zQ c14
            clear c14
            replace H:=zb.mp H
            obtain ⟨t445,A150,H⟩:=H
            replace H:(if t445 = true then ((foretellref_looksAhead.f ((rd_T94 l0 x8_1).f0)).bind fun t447=>(if t447 = true then (foretellref_FormulaFault.l0 kj10 l0 a1 (wrap64 (x7_1 + 1)) (wrap64 (x8_1 + 1))) else (foretellref_FormulaFault.l0 kj10 l0 a1 x7_1 (wrap64 (x8_1 + 1))))) else (some 2)) = some r:=H
            have A15:=zA A150
            clear A150
            by_cases c16:t445 = true
            ·subst c16
             have H1:((foretellref_looksAhead.f ((rd_T94 l0 x8_1).f0)).bind fun t447=>(if t447 = true then (foretellref_FormulaFault.l0 kj10 l0 a1 (wrap64 (x7_1 + 1)) (wrap64 (x8_1 + 1))) else (foretellref_FormulaFault.l0 kj10 l0 a1 x7_1 (wrap64 (x8_1 + 1))))) = some r:=by rw [if_pos rfl] at H;exact H
             clear H
             have H:=H1
             clear H1
             replace H:=zb.mp H
             obtain ⟨t447,A170,H⟩:=H
             replace H:(if t447 = true then (foretellref_FormulaFault.l0 kj10 l0 a1 (wrap64 (x7_1 + 1)) (wrap64 (x8_1 + 1))) else (foretellref_FormulaFault.l0 kj10 l0 a1 x7_1 (wrap64 (x8_1 + 1)))) = some r:=H
             have A17:=zA A170
             clear A170
             by_cases c18:t447 = true
             ·subst c18
              have H1:(foretellref_FormulaFault.l0 kj10 l0 a1 (wrap64 (x7_1 + 1)) (wrap64 (x8_1 + 1))) = some r:=by rw [if_pos rfl] at H;exact H
              clear H
              have H:=H1
              clear H1
              have H':=zA H
              clear H
              have p444:0 ≤ (x8_1:Int):=zP (by assumption)
              have q444:x8_1 < (l0.length:Int):=zP (by assumption)
              obtain ⟨ad444,e444,hx444_0,hx444_1⟩:=at_T94 HR0.out x8_1 p444 q444
              obtain rfl:ad442 = ad444:=(by injection e444)
              replace hx444_0:=(HB.out.cell (zB w _ hx444_0)).trans hx444_0
              replace hx444_1:=(HB.out.cell (zB w _ hx444_1)).trans hx444_1
              replace p444:=eq_true p444
              replace q444:=eq_true q444
              go_wp2_with (first|((with_reducible refine zU (f:=56) rfl ?_);refine goesL_ (some 47) rfl rfl Tryd.func56 (by kernel_rfl) rfl #[.int .i64 ((rd_T94 l0 x8_1).f1),.int .i64 0,.int .i64 x9_10] rfl (by (try simp only [zx,zy,zz]);first|done|rfl|(simp only [zd,zt];rfl)) ?_;(with_reducible refine (foretellref_In.calls ((rd_T94 l0 x8_1).f1) 0 x9_10 true _ A15.out).mono ?_);rintro e w' ⟨rfl,⟨nd,rfl⟩⟩;refine ⟨_,rfl,?_⟩;have p446:0 ≤ (x8_1:Int):=zP (by assumption);have q446:x8_1 < (l0.length:Int):=zP (by assumption);obtain ⟨ad446,e446,hx446_0,hx446_1⟩:=at_T94 HR0.out x8_1 p446 q446;obtain rfl:ad442 = ad446:=(by injection e446);replace hx446_0:=(HB.out.cell (zB w _ hx446_0)).trans hx446_0;replace hx446_1:=(HB.out.cell (zB w _ hx446_1)).trans hx446_1;replace p446:=eq_true p446;replace q446:=eq_true q446)|((with_reducible refine zU (f:=75) rfl ?_);refine goesL_ (some 54) rfl rfl Tryd.func75 (by kernel_rfl) rfl #[.int .i64 ((rd_T94 l0 x8_1).f0)] rfl (by (try simp only [zx,zy,zz]);first|done|rfl|(simp only [zd,zt];rfl)) ?_;(with_reducible refine (foretellref_looksAhead.calls ((rd_T94 l0 x8_1).f0) true _ A17.out).mono ?_);rintro e w' ⟨rfl,⟨nd,rfl⟩⟩;refine ⟨_,rfl,?_⟩))
              go_roundg kj10
              case measure=>have:=HK1.out;have:=HJ10.out;omega
              case rel=>exact ⟨(wrap64 (x7_1 + 1)),(wrap64 (x8_1 + 1)),(by first|rfl|(simp;done)|(simp [*];done)),(by first|rfl|(simp;done)|(simp [*];done)),H',⟨by have:=HK1.out;have:=HJ10.out;omega⟩,⟨by repeat (first|(with_reducible first|exact HB.out|apply zD|apply zC|apply zE)|exact HB.out)⟩⟩
             ·replace c18:=Bool.eq_false_iff.mpr c18
              subst c18
              have H1:(foretellref_FormulaFault.l0 kj10 l0 a1 x7_1 (wrap64 (x8_1 + 1))) = some r:=by rw [if_neg (show ¬ (false = true) by decide)] at H;exact H
              clear H
              have H:=H1
              clear H1
              have H':=zA H
              clear H
              have p444:0 ≤ (x8_1:Int):=zP (by assumption)
              have q444:x8_1 < (l0.length:Int):=zP (by assumption)
              obtain ⟨ad444,e444,hx444_0,hx444_1⟩:=at_T94 HR0.out x8_1 p444 q444
              obtain rfl:ad442 = ad444:=(by injection e444)
              replace hx444_0:=(HB.out.cell (zB w _ hx444_0)).trans hx444_0
              replace hx444_1:=(HB.out.cell (zB w _ hx444_1)).trans hx444_1
              replace p444:=eq_true p444
              replace q444:=eq_true q444
              go_wp2_with (first|((with_reducible refine zU (f:=56) rfl ?_);refine goesL_ (some 47) rfl rfl Tryd.func56 (by kernel_rfl) rfl #[.int .i64 ((rd_T94 l0 x8_1).f1),.int .i64 0,.int .i64 x9_10] rfl (by (try simp only [zx,zy,zz]);first|done|rfl|(simp only [zd,zt];rfl)) ?_;(with_reducible refine (foretellref_In.calls ((rd_T94 l0 x8_1).f1) 0 x9_10 true _ A15.out).mono ?_);rintro e w' ⟨rfl,⟨nd,rfl⟩⟩;refine ⟨_,rfl,?_⟩;have p446:0 ≤ (x8_1:Int):=zP (by assumption);have q446:x8_1 < (l0.length:Int):=zP (by assumption);obtain ⟨ad446,e446,hx446_0,hx446_1⟩:=at_T94 HR0.out x8_1 p446 q446;obtain rfl:ad442 = ad446:=(by injection e446);replace hx446_0:=(HB.out.cell (zB w _ hx446_0)).trans hx446_0;replace hx446_1:=(HB.out.cell (zB w _ hx446_1)).trans hx446_1;replace p446:=eq_true p446;replace q446:=eq_true q446)|((with_reducible refine zU (f:=75) rfl ?_);refine goesL_ (some 54) rfl rfl Tryd.func75 (by kernel_rfl) rfl #[.int .i64 ((rd_T94 l0 x8_1).f0)] rfl (by (try simp only [zx,zy,zz]);first|done|rfl|(simp only [zd,zt];rfl)) ?_;(with_reducible refine (foretellref_looksAhead.calls ((rd_T94 l0 x8_1).f0) false _ A17.out).mono ?_);rintro e w' ⟨rfl,⟨nd,rfl⟩⟩;refine ⟨_,rfl,?_⟩))
              go_roundg kj10
              case measure=>have:=HK1.out;have:=HJ10.out;omega
              case rel=>exact ⟨(x7_1),(wrap64 (x8_1 + 1)),(by first|rfl|(simp;done)|(simp [*];done)),(by first|rfl|(simp;done)|(simp [*];done)),H',⟨by have:=HK1.out;have:=HJ10.out;omega⟩,⟨by repeat (first|(with_reducible first|exact HB.out|apply zD|apply zC|apply zE)|exact HB.out)⟩⟩
            ·replace c16:=Bool.eq_false_iff.mpr c16
             subst c16
             have H1:(some 2) = some r:=by rw [if_neg (show ¬ (false = true) by decide)] at H;exact H
             clear H
             have H:=H1
             clear H1
             obtain rfl:=Option.some.inj H
             have p444:0 ≤ (x8_1:Int):=zP (by assumption)
             have q444:x8_1 < (l0.length:Int):=zP (by assumption)
             obtain ⟨ad444,e444,hx444_0,hx444_1⟩:=at_T94 HR0.out x8_1 p444 q444
             obtain rfl:ad442 = ad444:=(by injection e444)
             replace hx444_0:=(HB.out.cell (zB w _ hx444_0)).trans hx444_0
             replace hx444_1:=(HB.out.cell (zB w _ hx444_1)).trans hx444_1
             replace p444:=eq_true p444
             replace q444:=eq_true q444
             go_wp2_with (first|((with_reducible refine zU (f:=56) rfl ?_);refine goesL_ (some 47) rfl rfl Tryd.func56 (by kernel_rfl) rfl #[.int .i64 ((rd_T94 l0 x8_1).f1),.int .i64 0,.int .i64 x9_10] rfl (by (try simp only [zx,zy,zz]);first|done|rfl|(simp only [zd,zt];rfl)) ?_;(with_reducible refine (foretellref_In.calls ((rd_T94 l0 x8_1).f1) 0 x9_10 false _ A15.out).mono ?_);rintro e w' ⟨rfl,⟨nd,rfl⟩⟩;refine ⟨_,rfl,?_⟩))
             go_ret
             exact ⟨by first|rfl|(simp [errW_none,errW_some] <;> rfl)|(simp [*,errW_none,errW_some] <;> rfl),by repeat (first|(with_reducible first|exact HB.out|apply zD|apply zC|apply zE)|exact HB.out)⟩
           ·rw [if_neg c14] at H
            exact absurd H (by simp)
          ·rw [if_neg c13] at H
           exact absurd H (by simp)
      ·rw [if_neg c9] at H
       exact absurd H (by simp)
     ·rw [if_neg c8] at H
      have c8b0:decide (x8_1 < (l0.length:Int)) = false:=zR c8
      clear c8
      by_cases c19:x7_1 > 6
      ·rw [if_pos c19] at H
       have c19b0:decide (6 < x7_1) = true:=zQ c19
       clear c19
       obtain rfl:=Option.some.inj H
       go_wp2
       go_ret
       exact ⟨by first|rfl|(simp [errW_none,errW_some] <;> rfl)|(simp [*,errW_none,errW_some] <;> rfl),by repeat (first|(with_reducible first|exact HB.out|apply zD|apply zC|apply zE)|exact HB.out)⟩
      ·rw [if_neg c19] at H
       have c19b0:decide (6 < x7_1) = false:=zR c19
       clear c19
       obtain rfl:=Option.some.inj H
       go_wp2
       go_ret
       exact ⟨by first|rfl|(simp [errW_none,errW_some] <;> rfl)|(simp [*,errW_none,errW_some] <;> rfl),by repeat (first|(with_reducible first|exact HB.out|apply zD|apply zC|apply zE)|exact HB.out)⟩
  ·rw [if_neg c6] at H
   have c6b0:(t439 == 0) = false:=beq_eq_false_iff_ne.mpr c6
   have c6b1:(t439 != 0) = true:=bne_iff_ne.mpr c6
   obtain rfl:=Option.some.inj H
   go_enter Tryd.func58,Tryd.ntmps58
   go_wp2_with (first|((with_reducible refine zU (f:=56) rfl ?_);refine goesL_ (some 11) rfl rfl Tryd.func56 (by kernel_rfl) rfl #[.int .i64 a1,.int .i64 0,.int .i64 6] rfl (by (try simp only [zx,zy,zz]);first|done|rfl|(simp only [zd,zt];rfl)) ?_;(with_reducible refine (foretellref_In.calls a1 0 6 true _ A3.out).mono ?_);rintro e w' ⟨rfl,⟨nd,rfl⟩⟩;refine ⟨_,rfl,?_⟩)|((with_reducible refine zU (f:=74) rfl ?_);refine goesL_ (some 15) rfl rfl Tryd.func74 (by kernel_rfl) rfl #[.slice A0 l0.length c0] rfl (by (try simp only [zx,zy,zz]);first|done|rfl|(simp only [zd,zt];rfl)) ?_;(with_reducible refine (foretellref_EndsOf.calls k _ _ l0 t438 t439 _ ?side1 ?side2 A5.out).mono ?_);(case side1=>repeat (first|exact HR0.out|(with_reducible refine Kd.C_alloc ?_ _)|(with_reducible refine Kd.C_drewN ?_ _)|(with_reducible refine Kd.C_drew ?_)));(case side2=>exact HC0.out);rintro e w20 ⟨v440,rfl,ho0,hb⟩;refine ⟨_,rfl,?_⟩;have n0_:=zA (Kd.R_lower ho0 (zG (by repeat (first|(with_reducible first|exact HB.out|apply zD|apply zC|apply zE)|exact HB.out))));have n1_:=zA (zH (by repeat (first|(with_reducible first|exact HB.out|apply zD|apply zC|apply zE)|exact HB.out)) hb);clear HB;have HO441:=n0_;have HB:=n1_;clear n0_ n1_;(try clear hb);(try clear hb2);(try clear hk);(try clear hi);(try clear ho0)))
   go_ret
   exact ⟨by first|rfl|(simp [errW_none,errW_some] <;> rfl)|(simp [*,errW_none,errW_some] <;> rfl),by repeat (first|(with_reducible first|exact HB.out|apply zD|apply zC|apply zE)|exact HB.out)⟩
 ·replace c4:=Bool.eq_false_iff.mpr c4
  subst c4
  have H1:(some 2) = some r:=by rw [if_neg (show ¬ (false = true) by decide)] at H;exact H
  clear H
  have H:=H1
  clear H1
  obtain rfl:=Option.some.inj H
  go_enter Tryd.func58,Tryd.ntmps58
  go_wp2_with (first|((with_reducible refine zU (f:=56) rfl ?_);refine goesL_ (some 11) rfl rfl Tryd.func56 (by kernel_rfl) rfl #[.int .i64 a1,.int .i64 0,.int .i64 6] rfl (by (try simp only [zx,zy,zz]);first|done|rfl|(simp only [zd,zt];rfl)) ?_;(with_reducible refine (foretellref_In.calls a1 0 6 false _ A3.out).mono ?_);rintro e w' ⟨rfl,⟨nd,rfl⟩⟩;refine ⟨_,rfl,?_⟩))
  go_ret
  exact ⟨by first|rfl|(simp [errW_none,errW_some] <;> rfl)|(simp [*,errW_none,errW_some] <;> rfl),by repeat (first|(with_reducible first|exact HB.out|apply zD|apply zC|apply zE)|exact HB.out)⟩
def foretellref_TaskFault.f (k:Nat) (l0_0:List (S74)) (l0_1:List (S68)) (l0_2:List (List (S94))) (l0_3:List (S94)):Option (Int):=(foretellref_PropsFault.f k l0_0 l0_1 l0_2).bind fun t449=>(if t449 = 0 then ((foretellref_FormulaFault.f k l0_3 (l0_2.length:Int)).bind fun t450=>(some t450)) else (some t449))
theorem foretellref_TaskFault.mono:∀ a0 a1 a2 a3 k,LeO (foretellref_TaskFault.f k a0 a1 a2 a3) (foretellref_TaskFault.f (k + 1) a0 a1 a2 a3):=by
 intro a0 a1 a2 a3 k
 unfold foretellref_TaskFault.f
 repeat' first
   | (with_reducible exact foretellref_FormulaFault.mono _ _ _)
   | (with_reducible exact foretellref_PropsFault.mono _ _ _ _)
   | (with_reducible exact LeO.refl _)
   | (with_reducible exact LeO.none _)
   | (with_reducible refine LeO.ite ?_ ?_)
   | (with_reducible refine LeO.bind ?_ (fun _=>?_))
   | exact foretellref_FormulaFault.mono _ _ _
   | exact foretellref_PropsFault.mono _ _ _ _
   | exact LeO.none _
   | refine LeO.ite ?_ ?_
   | refine LeO.bind ?_ (fun _=>?_)
set_option maxHeartbeats 8000000 in
set_option maxRecDepth 100000 in
theorem foretellref_TaskFault.calls (k:Nat) (A0_0:Option Addr) (c0_0:Nat) (l0_0:List (S74)) (A0_1:Option Addr) (c0_1:Nat) (l0_1:List (S68)) (A0_2:Option Addr) (c0_2:Nat) (l0_2:List (List (S94))) (A0_3:Option Addr) (c0_3:Nat) (l0_3:List (S94)) (r:Int) (w:World) (hr0_0:Kd.C k74 w A0_0 l0_0.length l0_0) (hc0_0:l0_0.length ≤ c0_0) (hr0_1:Kd.C k68 w A0_1 l0_1.length l0_1) (hc0_1:l0_1.length ≤ c0_1) (hr0_2:Kd.C (Kd.slice 94 k94) w A0_2 l0_2.length l0_2) (hc0_2:l0_2.length ≤ c0_2) (hr0_3:Kd.C k94 w A0_3 l0_3.length l0_3) (hc0_3:l0_3.length ≤ c0_3) (h:foretellref_TaskFault.f k l0_0 l0_1 l0_2 l0_3 = some r) :
  Calls Tryd.prog 34 #[.agg #[.slice A0_0 l0_0.length c0_0,.slice A0_1 l0_1.length c0_1,.slice A0_2 l0_2.length c0_2,.slice A0_3 l0_3.length c0_3]] w fun e w'=>e = .returned (.int .i64 r)∧Below w.heap.size w w':=by
 have hu47:=Tryd.underlying47
 have hu25:=Tryd.underlying25
 have HR0_0:=zA hr0_0
 have HC0_0:=zA hc0_0
 clear hr0_0 hc0_0
 have HR0_1:=zA hr0_1
 have HC0_1:=zA hc0_1
 clear hr0_1 hc0_1
 have HR0_2:=zA hr0_2
 have HC0_2:=zA hc0_2
 clear hr0_2 hc0_2
 have HR0_3:=zA hr0_3
 have HC0_3:=zA hc0_3
 clear hr0_3 hc0_3
 have HB:=zA (Below.refl w.heap.size w)
 have H:((foretellref_PropsFault.f k l0_0 l0_1 l0_2).bind fun t449=>(if t449 = 0 then ((foretellref_FormulaFault.f k l0_3 (l0_2.length:Int)).bind fun t450=>(some t450)) else (some t449))) = some r:=h
 clear h
 replace H:=zb.mp H
 obtain ⟨t449,A20,H⟩:=H
 replace H:(if t449 = 0 then ((foretellref_FormulaFault.f k l0_3 (l0_2.length:Int)).bind fun t450=>(some t450)) else (some t449)) = some r:=H
 have A2:=zA A20
 clear A20
 by_cases c3:t449 = 0
 ·rw [if_pos c3] at H
  have c3b0:(t449 == 0) = true:=beq_iff_eq.mpr c3
  have c3b1:(t449 != 0) = false:=bne_eq_false_iff_eq.mpr c3
  clear c3
  replace H:=zb.mp H
  obtain ⟨t450,A40,H⟩:=H
  replace H:(some t450) = some r:=H
  have A4:=zA A40
  clear A40
  obtain rfl:=Option.some.inj H
  go_enter Tryd.func34,Tryd.ntmps34
  go_wp2_with (first|((with_reducible refine zV (N:=1) rfl ?_);refine zW ?hg (N:=1) ?hd (cs:=#[.slice A0_0 l0_0.length c0_0,.slice A0_1 l0_1.length c0_1,.slice A0_2 l0_2.length c0_2,.slice A0_3 l0_3.length c0_3]) (t:=47) ?hr ?_;(case hd=>rfl);(case hg=>rfl);(case hr=>first|(go_simp;done)|(go_simp;rfl));intro gb448 hg w5 hbox hb;have n0_:=zA (zH (by repeat (first|(with_reducible first|exact HB.out|apply zD|apply zC|apply zE)|exact HB.out)) hb);have n1_:=zA (hbox);have n2_:=zA ((by rw [hg];exact (zG (by repeat (first|(with_reducible first|exact HB.out|apply zD|apply zC|apply zE)|exact HB.out))):w.heap.size ≤ gb448));have n3_:=zA ((by rw [hg];exact (zG (by repeat (first|(with_reducible first|exact HB.out|apply zD|apply zC|apply zE)|exact HB.out))):w.heap.size ≤ gb448));clear HB;have HB:=n0_;have BK448:=n1_;have GW448:=n2_;have GE448:=n3_;clear n0_ n1_ n2_ n3_;clear hb hbox hg;have hcz6_0:w5.cell? ⟨gb448,0,none⟩ = some (.slice A0_0 l0_0.length c0_0):=(zI BK448.out 0).trans rfl;have hcz6_1:w5.cell? ⟨gb448,1,none⟩ = some (.slice A0_1 l0_1.length c0_1):=(zI BK448.out 1).trans rfl;have hcz6_2:w5.cell? ⟨gb448,2,none⟩ = some (.slice A0_2 l0_2.length c0_2):=(zI BK448.out 2).trans rfl;have hcz6_3:w5.cell? ⟨gb448,3,none⟩ = some (.slice A0_3 l0_3.length c0_3):=(zI BK448.out 3).trans rfl;have hfz6_0:=zJ BK448.out 0;have hfz6_1:=zJ BK448.out 1;have hfz6_2:=zJ BK448.out 2;have hfz6_3:=zJ BK448.out 3)|((with_reducible refine zU (f:=23) rfl ?_);refine goesL_ (some 8) rfl rfl Tryd.func23 (by kernel_rfl) rfl #[.agg #[.slice A0_0 l0_0.length c0_0,.slice A0_1 l0_1.length c0_1],.slice A0_2 l0_2.length c0_2] rfl (by (try simp only [zx,zy,zz]);first|done|rfl|(simp only [zd,zt];rfl)) ?_;(with_reducible refine (foretellref_PropsFault.calls k _ _ l0_0 _ _ l0_1 _ _ l0_2 t449 _ ?side1 ?side2 ?side3 ?side4 ?side5 ?side6 A2.out).mono ?_);(case side1=>repeat (first|exact (zT HR0_0.out HB.out)|(with_reducible refine Kd.C_alloc ?_ _)|(with_reducible refine Kd.C_drewN ?_ _)|(with_reducible refine Kd.C_drew ?_)));(case side2=>exact HC0_0.out);(case side3=>repeat (first|exact (zT HR0_1.out HB.out)|(with_reducible refine Kd.C_alloc ?_ _)|(with_reducible refine Kd.C_drewN ?_ _)|(with_reducible refine Kd.C_drew ?_)));(case side4=>exact HC0_1.out);(case side5=>repeat (first|exact (zT HR0_2.out HB.out)|(with_reducible refine Kd.C_alloc ?_ _)|(with_reducible refine Kd.C_drewN ?_ _)|(with_reducible refine Kd.C_drew ?_)));(case side6=>exact HC0_2.out);rintro e w7 ⟨rfl,hb⟩;refine ⟨_,rfl,?_⟩;have n0_:=zA (zN (g:=gb448) (o:=.cells #[.slice A0_0 l0_0.length c0_0,.slice A0_1 l0_1.length c0_1,.slice A0_2 l0_2.length c0_2,.slice A0_3 l0_3.length c0_3] 47 (0,0)) (by (with_reducible repeat (first|refine zL ?_ _|refine zM ?_|refine zK ?_ _));exact BK448.out) hb);have n1_:=zA (zH (by repeat (first|(with_reducible first|exact HB.out|apply zD|apply zC|apply zE|refine zF ?_ GE448.out)|exact HB.out)) hb);clear BK448;clear HB;have BK448:=n0_;have HB:=n1_;clear n0_ n1_;(try clear hb);(try clear hb2);(try clear hk);(try clear hi);have hcz8_0:w7.cell? ⟨gb448,0,none⟩ = some (.slice A0_0 l0_0.length c0_0):=(zI BK448.out 0).trans rfl;have hcz8_1:w7.cell? ⟨gb448,1,none⟩ = some (.slice A0_1 l0_1.length c0_1):=(zI BK448.out 1).trans rfl;have hcz8_2:w7.cell? ⟨gb448,2,none⟩ = some (.slice A0_2 l0_2.length c0_2):=(zI BK448.out 2).trans rfl;have hcz8_3:w7.cell? ⟨gb448,3,none⟩ = some (.slice A0_3 l0_3.length c0_3):=(zI BK448.out 3).trans rfl;have hfz8_0:=zJ BK448.out 0;have hfz8_1:=zJ BK448.out 1;have hfz8_2:=zJ BK448.out 2;have hfz8_3:=zJ BK448.out 3)|((with_reducible refine zU (f:=58) rfl ?_);refine goesL_ (some 16) rfl rfl Tryd.func58 (by kernel_rfl) rfl #[.slice A0_3 l0_3.length c0_3,.int .i64 (l0_2.length:Int)] rfl (by (try simp only [zx,zy,zz]);first|done|rfl|(simp only [zd,zt];rfl)) ?_;(with_reducible refine (foretellref_FormulaFault.calls k _ _ l0_3 (l0_2.length:Int) t450 _ ?side1 ?side2 A4.out).mono ?_);(case side1=>repeat (first|exact (zT HR0_3.out HB.out)|(with_reducible refine Kd.C_alloc ?_ _)|(with_reducible refine Kd.C_drewN ?_ _)|(with_reducible refine Kd.C_drew ?_)));(case side2=>exact HC0_3.out);rintro e w9 ⟨rfl,hb⟩;refine ⟨_,rfl,?_⟩;have n0_:=zA (zN (g:=gb448) (o:=.cells #[.slice A0_0 l0_0.length c0_0,.slice A0_1 l0_1.length c0_1,.slice A0_2 l0_2.length c0_2,.slice A0_3 l0_3.length c0_3] 47 (0,0)) (by (with_reducible repeat (first|refine zL ?_ _|refine zM ?_|refine zK ?_ _));exact BK448.out) hb);have n1_:=zA (zH (by repeat (first|(with_reducible first|exact HB.out|apply zD|apply zC|apply zE|refine zF ?_ GE448.out)|exact HB.out)) hb);clear BK448;clear HB;have BK448:=n0_;have HB:=n1_;clear n0_ n1_;(try clear hb);(try clear hb2);(try clear hk);(try clear hi)))
  go_ret
  exact ⟨by first|rfl|(simp [errW_none,errW_some] <;> rfl)|(simp [*,errW_none,errW_some] <;> rfl),by repeat (first|(with_reducible first|exact HB.out|apply zD|apply zC|apply zE|refine zF ?_ GE448.out)|exact HB.out)⟩
 ·rw [if_neg c3] at H
  have c3b0:(t449 == 0) = false:=beq_eq_false_iff_ne.mpr c3
  have c3b1:(t449 != 0) = true:=bne_iff_ne.mpr c3
  obtain rfl:=Option.some.inj H
  go_enter Tryd.func34,Tryd.ntmps34
  go_wp2_with (first|((with_reducible refine zV (N:=1) rfl ?_);refine zW ?hg (N:=1) ?hd (cs:=#[.slice A0_0 l0_0.length c0_0,.slice A0_1 l0_1.length c0_1,.slice A0_2 l0_2.length c0_2,.slice A0_3 l0_3.length c0_3]) (t:=47) ?hr ?_;(case hd=>rfl);(case hg=>rfl);(case hr=>first|(go_simp;done)|(go_simp;rfl));intro gb448 hg w10 hbox hb;have n0_:=zA (zH (by repeat (first|(with_reducible first|exact HB.out|apply zD|apply zC|apply zE)|exact HB.out)) hb);have n1_:=zA (hbox);have n2_:=zA ((by rw [hg];exact (zG (by repeat (first|(with_reducible first|exact HB.out|apply zD|apply zC|apply zE)|exact HB.out))):w.heap.size ≤ gb448));have n3_:=zA ((by rw [hg];exact (zG (by repeat (first|(with_reducible first|exact HB.out|apply zD|apply zC|apply zE)|exact HB.out))):w.heap.size ≤ gb448));clear HB;have HB:=n0_;have BK448:=n1_;have GW448:=n2_;have GE448:=n3_;clear n0_ n1_ n2_ n3_;clear hb hbox hg;have hcz11_0:w10.cell? ⟨gb448,0,none⟩ = some (.slice A0_0 l0_0.length c0_0):=(zI BK448.out 0).trans rfl;have hcz11_1:w10.cell? ⟨gb448,1,none⟩ = some (.slice A0_1 l0_1.length c0_1):=(zI BK448.out 1).trans rfl;have hcz11_2:w10.cell? ⟨gb448,2,none⟩ = some (.slice A0_2 l0_2.length c0_2):=(zI BK448.out 2).trans rfl;have hcz11_3:w10.cell? ⟨gb448,3,none⟩ = some (.slice A0_3 l0_3.length c0_3):=(zI BK448.out 3).trans rfl;have hfz11_0:=zJ BK448.out 0;have hfz11_1:=zJ BK448.out 1;have hfz11_2:=zJ BK448.out 2;have hfz11_3:=zJ BK448.out 3)|((with_reducible refine zU (f:=23) rfl ?_);refine goesL_ (some 8) rfl rfl Tryd.func23 (by kernel_rfl) rfl #[.agg #[.slice A0_0 l0_0.length c0_0,.slice A0_1 l0_1.length c0_1],.slice A0_2 l0_2.length c0_2] rfl (by (try simp only [zx,zy,zz]);first|done|rfl|(simp only [zd,zt];rfl)) ?_;(with_reducible refine (foretellref_PropsFault.calls k _ _ l0_0 _ _ l0_1 _ _ l0_2 t449 _ ?side1 ?side2 ?side3 ?side4 ?side5 ?side6 A2.out).mono ?_);(case side1=>repeat (first|exact (zT HR0_0.out HB.out)|(with_reducible refine Kd.C_alloc ?_ _)|(with_reducible refine Kd.C_drewN ?_ _)|(with_reducible refine Kd.C_drew ?_)));(case side2=>exact HC0_0.out);(case side3=>repeat (first|exact (zT HR0_1.out HB.out)|(with_reducible refine Kd.C_alloc ?_ _)|(with_reducible refine Kd.C_drewN ?_ _)|(with_reducible refine Kd.C_drew ?_)));(case side4=>exact HC0_1.out);(case side5=>repeat (first|exact (zT HR0_2.out HB.out)|(with_reducible refine Kd.C_alloc ?_ _)|(with_reducible refine Kd.C_drewN ?_ _)|(with_reducible refine Kd.C_drew ?_)));(case side6=>exact HC0_2.out);rintro e w12 ⟨rfl,hb⟩;refine ⟨_,rfl,?_⟩;have n0_:=zA (zN (g:=gb448) (o:=.cells #[.slice A0_0 l0_0.length c0_0,.slice A0_1 l0_1.length c0_1,.slice A0_2 l0_2.length c0_2,.slice A0_3 l0_3.length c0_3] 47 (0,0)) (by (with_reducible repeat (first|refine zL ?_ _|refine zM ?_|refine zK ?_ _));exact BK448.out) hb);have n1_:=zA (zH (by repeat (first|(with_reducible first|exact HB.out|apply zD|apply zC|apply zE|refine zF ?_ GE448.out)|exact HB.out)) hb);clear BK448;clear HB;have BK448:=n0_;have HB:=n1_;clear n0_ n1_;(try clear hb);(try clear hb2);(try clear hk);(try clear hi)))
  go_ret
  exact ⟨by first|rfl|(simp [errW_none,errW_some] <;> rfl)|(simp [*,errW_none,errW_some] <;> rfl),by repeat (first|(with_reducible first|exact HB.out|apply zD|apply zC|apply zE|refine zF ?_ GE448.out)|exact HB.out)⟩
def foretelllaw_sameTerms.l0:Nat → List (List (S94)) → List (List (S94)) → Int → Option (Bool)
 | 0,_,_,_=>none
 | k + 1,x0,x1,x5=>if x5 < (x0.length:Int) then (if 0 ≤ x5 then (if x5 < (x1.length:Int) then ((foretelllaw_sameOps.f k (rd_L4 x0 x5) (rd_L4 x1 x5)).bind fun t453=>(if t453 = true then (foretelllaw_sameTerms.l0 k x0 x1 (wrap64 (x5 + 1))) else (some false))) else (none)) else (none)) else (some true)
def foretelllaw_sameTerms.f (k:Nat) (l0:List (List (S94))) (l1:List (List (S94))):Option (Bool):=if (l0.length:Int) = (l1.length:Int) then (foretelllaw_sameTerms.l0 k l0 l1 0) else (some false)
theorem foretelllaw_sameTerms.mono_l:∀ k,(∀ y0 y1 y2,LeO (foretelllaw_sameTerms.l0 k y0 y1 y2) (foretelllaw_sameTerms.l0 (k + 1) y0 y1 y2))
 | 0=>fun _ _ _ r h=>by simp [foretelllaw_sameTerms.l0] at h
 | k + 1=>by
  have ih0:=foretelllaw_sameTerms.mono_l k
  ·intro y0 y1 y2
   unfold foretelllaw_sameTerms.l0
   repeat' first
   | (with_reducible exact ih0 _ _ _)
   | (with_reducible exact foretelllaw_sameOps.mono _ _ _)
   | (with_reducible exact LeO.refl _)
   | (with_reducible exact LeO.none _)
   | (with_reducible refine LeO.ite ?_ ?_)
   | (with_reducible refine LeO.bind ?_ (fun _=>?_))
   | exact ih0 _ _ _
   | exact foretelllaw_sameOps.mono _ _ _
   | exact LeO.none _
   | refine LeO.ite ?_ ?_
   | refine LeO.bind ?_ (fun _=>?_)
theorem foretelllaw_sameTerms.mono:∀ a0 a1 k,LeO (foretelllaw_sameTerms.f k a0 a1) (foretelllaw_sameTerms.f (k + 1) a0 a1):=by
 intro a0 a1 k
 have ih0:=foretelllaw_sameTerms.mono_l k
 unfold foretelllaw_sameTerms.f
 repeat' first
   | (with_reducible exact ih0 _ _ _)
   | (with_reducible exact foretelllaw_sameOps.mono _ _ _)
   | (with_reducible exact LeO.refl _)
   | (with_reducible exact LeO.none _)
   | (with_reducible refine LeO.ite ?_ ?_)
   | (with_reducible refine LeO.bind ?_ (fun _=>?_))
   | exact ih0 _ _ _
   | exact foretelllaw_sameOps.mono _ _ _
   | exact LeO.none _
   | refine LeO.ite ?_ ?_
   | refine LeO.bind ?_ (fun _=>?_)
set_option maxHeartbeats 8000000 in
set_option maxRecDepth 100000 in
theorem foretelllaw_sameTerms.calls (k:Nat) (A0:Option Addr) (c0:Nat) (l0:List (List (S94))) (A1:Option Addr) (c1:Nat) (l1:List (List (S94))) (r:Bool) (w:World) (hr0:Kd.C (Kd.slice 94 k94) w A0 l0.length l0) (hc0:l0.length ≤ c0) (hr1:Kd.C (Kd.slice 94 k94) w A1 l1.length l1) (hc1:l1.length ≤ c1) (h:foretelllaw_sameTerms.f k l0 l1 = some r) :
  Calls Tryd.prog 59 #[.slice A0 l0.length c0,.slice A1 l1.length c1] w fun e w'=>e = .returned (.bool r)∧Drawn0 w w':=by
 have HR0:=zA hr0
 have HC0:=zA hc0
 clear hr0 hc0
 have HR1:=zA hr1
 have HC1:=zA hc1
 clear hr1 hc1
 have H:(if (l0.length:Int) = (l1.length:Int) then (foretelllaw_sameTerms.l0 k l0 l1 0) else (some false)) = some r:=h
 clear h
 by_cases c3:(l0.length:Int) = (l1.length:Int)
 ·rw [if_pos c3] at H
  have c3b0:((l0.length:Int) == (l1.length:Int)) = true:=beq_iff_eq.mpr c3
  have c3b1:((l0.length:Int) != (l1.length:Int)) = false:=bne_eq_false_iff_eq.mpr c3
  have c3b2:(l0.length == l1.length) = true:=by first|simpa using c3|(simp at c3 ⊢;omega)
  clear c3
  have H':=zA H
  clear H
  go_enter Tryd.func59,Tryd.ntmps59
  go_wp2
  repeat (go_quiet (fail);try go_wp2)
  go_loopg [5] k (fun kq v5 w'=>∃ (x5_1:Int),v5 = .int .i64 x5_1∧Aside0 (foretelllaw_sameTerms.l0 kq l0 l1 x5_1 = some r)∧Aside0 (kq ≤ k)∧Drawn0 w w')
  case atStart=>exact ⟨(0),(by first|rfl|(simp;done)|(simp [*];done)),H',⟨Nat.le_refl _⟩,by repeat (first|exact Drawn0.refl _|apply Drawn0.step)⟩
  case round =>
   clear H'
   try clear c1
   try clear p2
   try clear c3
   try clear c3b0
   try clear c3b1
   try clear c3b2
   obtain ⟨x5_1,rfl,HA,HK1,⟨m1,rfl⟩⟩:=hrel
   cases gk with
   | zero=>exact absurd HA.out (by simp [foretelllaw_sameTerms.l0])
   | succ k1 =>
    have H:=HA.out
    clear HA
    simp only [foretelllaw_sameTerms.l0] at H
    by_cases c4:x5_1 < (l0.length:Int)
    ·rw [if_pos c4] at H
     have c4b0:decide (x5_1 < (l0.length:Int)) = true:=zQ c4
     clear c4
     by_cases c5:0 ≤ x5_1
     ·rw [if_pos c5] at H
      have c5b0:decide (0 ≤ x5_1) = true:=zQ c5
      clear c5
      by_cases c6:x5_1 < (l1.length:Int)
      ·rw [if_pos c6] at H
       have c6b0:decide (x5_1 < (l1.length:Int)) = true:=zQ c6
       clear c6
       replace H:=zb.mp H
       obtain ⟨t453,A70,H⟩:=H
       replace H:(if t453 = true then (foretelllaw_sameTerms.l0 k1 l0 l1 (wrap64 (x5_1 + 1))) else (some false)) = some r:=H
       have A7:=zA A70
       clear A70
       by_cases c8:t453 = true
       ·subst c8
        have H1:(foretelllaw_sameTerms.l0 k1 l0 l1 (wrap64 (x5_1 + 1))) = some r:=by rw [if_pos rfl] at H;exact H
        clear H
        have H:=H1
        clear H1
        have H':=zA H
        clear H
        have p451:0 ≤ (x5_1:Int):=zP (by assumption)
        have q451:x5_1 < (l0.length:Int):=zP (by assumption)
        obtain ⟨ad451,A451_0,c451_0,e451,hx451_0,hl451_0,hi451_0⟩:=at_L4 HR0.out x5_1 p451 q451
        cases e451
        have HR451_0:=zA hi451_0
        have HC451_0:=zA hl451_0
        clear hi451_0 hl451_0
        replace p451:=eq_true p451
        replace q451:=eq_true q451
        have p452:0 ≤ (x5_1:Int):=zP (by assumption)
        have q452:x5_1 < (l1.length:Int):=zP (by assumption)
        obtain ⟨ad452,A452_0,c452_0,e452,hx452_0,hl452_0,hi452_0⟩:=at_L4 HR1.out x5_1 p452 q452
        cases e452
        have HR452_0:=zA hi452_0
        have HC452_0:=zA hl452_0
        clear hi452_0 hl452_0
        replace p452:=eq_true p452
        replace q452:=eq_true q452
        go_wp2_with (first|(go_at_call 52;(with_reducible refine (foretelllaw_sameOps.calls k1 _ _ (rd_L4 l0 x5_1) _ _ (rd_L4 l1 x5_1) true _ ?side1 ?side2 ?side3 ?side4 A7.out).mono ?_);(case side1=>repeat (first|exact HR451_0.out|(with_reducible refine Kd.C_alloc ?_ _)|(with_reducible refine Kd.C_drewN ?_ _)|(with_reducible refine Kd.C_drew ?_)));(case side2=>exact HC451_0.out);(case side3=>repeat (first|exact HR452_0.out|(with_reducible refine Kd.C_alloc ?_ _)|(with_reducible refine Kd.C_drewN ?_ _)|(with_reducible refine Kd.C_drew ?_)));(case side4=>exact HC452_0.out);rintro e w' ⟨rfl,⟨nd,rfl⟩⟩;(try first|exact ⟨rfl,_,World.drewN_drewN _ _ _⟩|exact ⟨rfl,_,Eq.trans (World.drewN_drewN _ _ _) (congrArg (World.drewN _) (Nat.add_assoc _ _ _))⟩)))
        repeat (go_quiet (first|(go_at_call 52;(with_reducible refine (foretelllaw_sameOps.calls k1 _ _ (rd_L4 l0 x5_1) _ _ (rd_L4 l1 x5_1) true _ ?side1 ?side2 ?side3 ?side4 A7.out).mono ?_);(case side1=>repeat (first|exact HR451_0.out|(with_reducible refine Kd.C_alloc ?_ _)|(with_reducible refine Kd.C_drewN ?_ _)|(with_reducible refine Kd.C_drew ?_)));(case side2=>exact HC451_0.out);(case side3=>repeat (first|exact HR452_0.out|(with_reducible refine Kd.C_alloc ?_ _)|(with_reducible refine Kd.C_drewN ?_ _)|(with_reducible refine Kd.C_drew ?_)));(case side4=>exact HC452_0.out);rintro e w' ⟨rfl,⟨nd,rfl⟩⟩;(try first|exact ⟨rfl,_,World.drewN_drewN _ _ _⟩|exact ⟨rfl,_,Eq.trans (World.drewN_drewN _ _ _) (congrArg (World.drewN _) (Nat.add_assoc _ _ _))⟩)));try go_wp2_with (first|(go_at_call 52;(with_reducible refine (foretelllaw_sameOps.calls k1 _ _ (rd_L4 l0 x5_1) _ _ (rd_L4 l1 x5_1) true _ ?side1 ?side2 ?side3 ?side4 A7.out).mono ?_);(case side1=>repeat (first|exact HR451_0.out|(with_reducible refine Kd.C_alloc ?_ _)|(with_reducible refine Kd.C_drewN ?_ _)|(with_reducible refine Kd.C_drew ?_)));(case side2=>exact HC451_0.out);(case side3=>repeat (first|exact HR452_0.out|(with_reducible refine Kd.C_alloc ?_ _)|(with_reducible refine Kd.C_drewN ?_ _)|(with_reducible refine Kd.C_drew ?_)));(case side4=>exact HC452_0.out);rintro e w' ⟨rfl,⟨nd,rfl⟩⟩;(try first|exact ⟨rfl,_,World.drewN_drewN _ _ _⟩|exact ⟨rfl,_,Eq.trans (World.drewN_drewN _ _ _) (congrArg (World.drewN _) (Nat.add_assoc _ _ _))⟩))))
        go_roundg k1
        case measure=>have:=HK1.out;omega
        case rel=>exact ⟨(wrap64 (x5_1 + 1)),(by first|rfl|(simp;done)|(simp [*];done)),H',⟨by have:=HK1.out;omega⟩,by repeat (first|exact Drawn0.refl _|apply Drawn0.step)⟩
       ·replace c8:=Bool.eq_false_iff.mpr c8
        subst c8
        have H1:(some false) = some r:=by rw [if_neg (show ¬ (false = true) by decide)] at H;exact H
        clear H
        have H:=H1
        clear H1
        obtain rfl:=Option.some.inj H
        have p451:0 ≤ (x5_1:Int):=zP (by assumption)
        have q451:x5_1 < (l0.length:Int):=zP (by assumption)
        obtain ⟨ad451,A451_0,c451_0,e451,hx451_0,hl451_0,hi451_0⟩:=at_L4 HR0.out x5_1 p451 q451
        cases e451
        have HR451_0:=zA hi451_0
        have HC451_0:=zA hl451_0
        clear hi451_0 hl451_0
        replace p451:=eq_true p451
        replace q451:=eq_true q451
        have p452:0 ≤ (x5_1:Int):=zP (by assumption)
        have q452:x5_1 < (l1.length:Int):=zP (by assumption)
        obtain ⟨ad452,A452_0,c452_0,e452,hx452_0,hl452_0,hi452_0⟩:=at_L4 HR1.out x5_1 p452 q452
        cases e452
        have HR452_0:=zA hi452_0
        have HC452_0:=zA hl452_0
        clear hi452_0 hl452_0
        replace p452:=eq_true p452
        replace q452:=eq_true q452
        go_wp2_with (first|(go_at_call 52;(with_reducible refine (foretelllaw_sameOps.calls k1 _ _ (rd_L4 l0 x5_1) _ _ (rd_L4 l1 x5_1) false _ ?side1 ?side2 ?side3 ?side4 A7.out).mono ?_);(case side1=>repeat (first|exact HR451_0.out|(with_reducible refine Kd.C_alloc ?_ _)|(with_reducible refine Kd.C_drewN ?_ _)|(with_reducible refine Kd.C_drew ?_)));(case side2=>exact HC451_0.out);(case side3=>repeat (first|exact HR452_0.out|(with_reducible refine Kd.C_alloc ?_ _)|(with_reducible refine Kd.C_drewN ?_ _)|(with_reducible refine Kd.C_drew ?_)));(case side4=>exact HC452_0.out);rintro e w' ⟨rfl,⟨nd,rfl⟩⟩;(try first|exact ⟨rfl,_,World.drewN_drewN _ _ _⟩|exact ⟨rfl,_,Eq.trans (World.drewN_drewN _ _ _) (congrArg (World.drewN _) (Nat.add_assoc _ _ _))⟩)))
        repeat (go_quiet (first|(go_at_call 52;(with_reducible refine (foretelllaw_sameOps.calls k1 _ _ (rd_L4 l0 x5_1) _ _ (rd_L4 l1 x5_1) false _ ?side1 ?side2 ?side3 ?side4 A7.out).mono ?_);(case side1=>repeat (first|exact HR451_0.out|(with_reducible refine Kd.C_alloc ?_ _)|(with_reducible refine Kd.C_drewN ?_ _)|(with_reducible refine Kd.C_drew ?_)));(case side2=>exact HC451_0.out);(case side3=>repeat (first|exact HR452_0.out|(with_reducible refine Kd.C_alloc ?_ _)|(with_reducible refine Kd.C_drewN ?_ _)|(with_reducible refine Kd.C_drew ?_)));(case side4=>exact HC452_0.out);rintro e w' ⟨rfl,⟨nd,rfl⟩⟩;(try first|exact ⟨rfl,_,World.drewN_drewN _ _ _⟩|exact ⟨rfl,_,Eq.trans (World.drewN_drewN _ _ _) (congrArg (World.drewN _) (Nat.add_assoc _ _ _))⟩)));try go_wp2_with (first|(go_at_call 52;(with_reducible refine (foretelllaw_sameOps.calls k1 _ _ (rd_L4 l0 x5_1) _ _ (rd_L4 l1 x5_1) false _ ?side1 ?side2 ?side3 ?side4 A7.out).mono ?_);(case side1=>repeat (first|exact HR451_0.out|(with_reducible refine Kd.C_alloc ?_ _)|(with_reducible refine Kd.C_drewN ?_ _)|(with_reducible refine Kd.C_drew ?_)));(case side2=>exact HC451_0.out);(case side3=>repeat (first|exact HR452_0.out|(with_reducible refine Kd.C_alloc ?_ _)|(with_reducible refine Kd.C_drewN ?_ _)|(with_reducible refine Kd.C_drew ?_)));(case side4=>exact HC452_0.out);rintro e w' ⟨rfl,⟨nd,rfl⟩⟩;(try first|exact ⟨rfl,_,World.drewN_drewN _ _ _⟩|exact ⟨rfl,_,Eq.trans (World.drewN_drewN _ _ _) (congrArg (World.drewN _) (Nat.add_assoc _ _ _))⟩))))
        go_ret
        exact ⟨by first|rfl|(simp;done)|(simp [*];done),by repeat (first|exact Drawn0.refl _|apply Drawn0.step)⟩
      ·rw [if_neg c6] at H
       exact absurd H (by simp)
     ·rw [if_neg c5] at H
      exact absurd H (by simp)
    ·rw [if_neg c4] at H
     have c4b0:decide (x5_1 < (l0.length:Int)) = false:=zR c4
     clear c4
     obtain rfl:=Option.some.inj H
     go_wp2
     repeat (go_quiet (fail);try go_wp2)
     go_ret
     exact ⟨by first|rfl|(simp;done)|(simp [*];done),by repeat (first|exact Drawn0.refl _|apply Drawn0.step)⟩
 ·rw [if_neg c3] at H
  have c3b0:((l0.length:Int) == (l1.length:Int)) = false:=beq_eq_false_iff_ne.mpr c3
  have c3b1:((l0.length:Int) != (l1.length:Int)) = true:=bne_iff_ne.mpr c3
  have c3b2:(l0.length == l1.length) = false:=by first|simpa using c3|(simp at c3 ⊢;omega)
  obtain rfl:=Option.some.inj H
  go_enter Tryd.func59,Tryd.ntmps59
  go_wp2
  repeat (go_quiet (fail);try go_wp2)
  go_ret
  exact ⟨by first|rfl|(simp;done)|(simp [*];done),by repeat (first|exact Drawn0.refl _|apply Drawn0.step)⟩
def foretelllaw_sameTask.f (k:Nat) (l0_0:List (S74)) (l0_1:List (S68)) (l0_2:List (List (S94))) (l0_3:List (S94)) (l1_0:List (S74)) (l1_1:List (S68)) (l1_2:List (List (S94))) (l1_3:List (S94)):Option (Bool):=(foretelllaw_sameModel.f k l0_0 l0_1 l1_0 l1_1).bind fun t456=>(if t456 = true then ((foretelllaw_sameTerms.f k l0_2 l1_2).bind fun t457=>(if t457 = true then ((foretelllaw_sameOps.f k l0_3 l1_3).bind fun t458=>(some t458)) else (some false))) else (some false))
theorem foretelllaw_sameTask.mono:∀ a0 a1 a2 a3 a4 a5 a6 a7 k,LeO (foretelllaw_sameTask.f k a0 a1 a2 a3 a4 a5 a6 a7) (foretelllaw_sameTask.f (k + 1) a0 a1 a2 a3 a4 a5 a6 a7):=by
 intro a0 a1 a2 a3 a4 a5 a6 a7 k
 unfold foretelllaw_sameTask.f
 repeat' first
   | (with_reducible exact foretelllaw_sameModel.mono _ _ _ _ _)
   | (with_reducible exact foretelllaw_sameOps.mono _ _ _)
   | (with_reducible exact foretelllaw_sameTerms.mono _ _ _)
   | (with_reducible exact LeO.refl _)
   | (with_reducible exact LeO.none _)
   | (with_reducible refine LeO.ite ?_ ?_)
   | (with_reducible refine LeO.bind ?_ (fun _=>?_))
   | exact foretelllaw_sameModel.mono _ _ _ _ _
   | exact foretelllaw_sameOps.mono _ _ _
   | exact foretelllaw_sameTerms.mono _ _ _
   | exact LeO.none _
   | refine LeO.ite ?_ ?_
   | refine LeO.bind ?_ (fun _=>?_)
set_option maxHeartbeats 8000000 in
set_option maxRecDepth 100000 in
theorem foretelllaw_sameTask.calls (k:Nat) (A0_0:Option Addr) (c0_0:Nat) (l0_0:List (S74)) (A0_1:Option Addr) (c0_1:Nat) (l0_1:List (S68)) (A0_2:Option Addr) (c0_2:Nat) (l0_2:List (List (S94))) (A0_3:Option Addr) (c0_3:Nat) (l0_3:List (S94)) (A1_0:Option Addr) (c1_0:Nat) (l1_0:List (S74)) (A1_1:Option Addr) (c1_1:Nat) (l1_1:List (S68)) (A1_2:Option Addr) (c1_2:Nat) (l1_2:List (List (S94))) (A1_3:Option Addr) (c1_3:Nat) (l1_3:List (S94)) (r:Bool) (w:World) (hr0_0:Kd.C k74 w A0_0 l0_0.length l0_0) (hc0_0:l0_0.length ≤ c0_0) (hr0_1:Kd.C k68 w A0_1 l0_1.length l0_1) (hc0_1:l0_1.length ≤ c0_1) (hr0_2:Kd.C (Kd.slice 94 k94) w A0_2 l0_2.length l0_2) (hc0_2:l0_2.length ≤ c0_2) (hr0_3:Kd.C k94 w A0_3 l0_3.length l0_3) (hc0_3:l0_3.length ≤ c0_3) (hr1_0:Kd.C k74 w A1_0 l1_0.length l1_0) (hc1_0:l1_0.length ≤ c1_0) (hr1_1:Kd.C k68 w A1_1 l1_1.length l1_1) (hc1_1:l1_1.length ≤ c1_1) (hr1_2:Kd.C (Kd.slice 94 k94) w A1_2 l1_2.length l1_2) (hc1_2:l1_2.length ≤ c1_2) (hr1_3:Kd.C k94 w A1_3 l1_3.length l1_3) (hc1_3:l1_3.length ≤ c1_3) (h:foretelllaw_sameTask.f k l0_0 l0_1 l0_2 l0_3 l1_0 l1_1 l1_2 l1_3 = some r) :
  Calls Tryd.prog 35 #[.agg #[.slice A0_0 l0_0.length c0_0,.slice A0_1 l0_1.length c0_1,.slice A0_2 l0_2.length c0_2,.slice A0_3 l0_3.length c0_3],.agg #[.slice A1_0 l1_0.length c1_0,.slice A1_1 l1_1.length c1_1,.slice A1_2 l1_2.length c1_2,.slice A1_3 l1_3.length c1_3]] w fun e w'=>e = .returned (.bool r)∧Below w.heap.size w w':=by
 have hu47:=Tryd.underlying47
 have hu25:=Tryd.underlying25
 have HR0_0:=zA hr0_0
 have HC0_0:=zA hc0_0
 clear hr0_0 hc0_0
 have HR0_1:=zA hr0_1
 have HC0_1:=zA hc0_1
 clear hr0_1 hc0_1
 have HR0_2:=zA hr0_2
 have HC0_2:=zA hc0_2
 clear hr0_2 hc0_2
 have HR0_3:=zA hr0_3
 have HC0_3:=zA hc0_3
 clear hr0_3 hc0_3
 have HR1_0:=zA hr1_0
 have HC1_0:=zA hc1_0
 clear hr1_0 hc1_0
 have HR1_1:=zA hr1_1
 have HC1_1:=zA hc1_1
 clear hr1_1 hc1_1
 have HR1_2:=zA hr1_2
 have HC1_2:=zA hc1_2
 clear hr1_2 hc1_2
 have HR1_3:=zA hr1_3
 have HC1_3:=zA hc1_3
 clear hr1_3 hc1_3
 have HB:=zA (Below.refl w.heap.size w)
 have H:((foretelllaw_sameModel.f k l0_0 l0_1 l1_0 l1_1).bind fun t456=>(if t456 = true then ((foretelllaw_sameTerms.f k l0_2 l1_2).bind fun t457=>(if t457 = true then ((foretelllaw_sameOps.f k l0_3 l1_3).bind fun t458=>(some t458)) else (some false))) else (some false))) = some r:=h
 clear h
 replace H:=zb.mp H
 obtain ⟨t456,A30,H⟩:=H
 replace H:(if t456 = true then ((foretelllaw_sameTerms.f k l0_2 l1_2).bind fun t457=>(if t457 = true then ((foretelllaw_sameOps.f k l0_3 l1_3).bind fun t458=>(some t458)) else (some false))) else (some false)) = some r:=H
 have A3:=zA A30
 clear A30
 by_cases c4:t456 = true
 ·subst c4
  have H1:((foretelllaw_sameTerms.f k l0_2 l1_2).bind fun t457=>(if t457 = true then ((foretelllaw_sameOps.f k l0_3 l1_3).bind fun t458=>(some t458)) else (some false))) = some r:=by rw [if_pos rfl] at H;exact H
  clear H
  have H:=H1
  clear H1
  replace H:=zb.mp H
  obtain ⟨t457,A50,H⟩:=H
  replace H:(if t457 = true then ((foretelllaw_sameOps.f k l0_3 l1_3).bind fun t458=>(some t458)) else (some false)) = some r:=H
  have A5:=zA A50
  clear A50
  by_cases c6:t457 = true
  ·subst c6
   have H1:((foretelllaw_sameOps.f k l0_3 l1_3).bind fun t458=>(some t458)) = some r:=by rw [if_pos rfl] at H;exact H
   clear H
   have H:=H1
   clear H1
   replace H:=zb.mp H
   obtain ⟨t458,A70,H⟩:=H
   replace H:(some t458) = some r:=H
   have A7:=zA A70
   clear A70
   obtain rfl:=Option.some.inj H
   go_enter Tryd.func35,Tryd.ntmps35
   go_wp2_with (first|((with_reducible refine zV (N:=2) rfl ?_);refine zW ?hg (N:=2) ?hd (cs:=#[.slice A0_0 l0_0.length c0_0,.slice A0_1 l0_1.length c0_1,.slice A0_2 l0_2.length c0_2,.slice A0_3 l0_3.length c0_3]) (t:=47) ?hr ?_;(case hd=>rfl);(case hg=>rfl);(case hr=>first|(go_simp;done)|(go_simp;rfl));intro gb454 hg w8 hbox hb;have n0_:=zA (zH (by repeat (first|(with_reducible first|exact HB.out|apply zD|apply zC|apply zE)|exact HB.out)) hb);have n1_:=zA (hbox);have n2_:=zA ((by rw [hg];exact (zG (by repeat (first|(with_reducible first|exact HB.out|apply zD|apply zC|apply zE)|exact HB.out))):w.heap.size ≤ gb454));have n3_:=zA ((by rw [hg];exact (zG (by repeat (first|(with_reducible first|exact HB.out|apply zD|apply zC|apply zE)|exact HB.out))):w.heap.size ≤ gb454));clear HB;have HB:=n0_;have BK454:=n1_;have GW454:=n2_;have GE454:=n3_;clear n0_ n1_ n2_ n3_;clear hb hbox hg)|((with_reducible refine zV (N:=3) rfl ?_);refine zW ?hg (N:=3) ?hd (cs:=#[.slice A1_0 l1_0.length c1_0,.slice A1_1 l1_1.length c1_1,.slice A1_2 l1_2.length c1_2,.slice A1_3 l1_3.length c1_3]) (t:=47) ?hr ?_;(case hd=>rfl);(case hg=>rfl);(case hr=>first|(go_simp;done)|(go_simp;rfl));intro gb455 hg w9 hbox hb;have n0_:=zA (zN (g:=gb454) (o:=.cells #[.slice A0_0 l0_0.length c0_0,.slice A0_1 l0_1.length c0_1,.slice A0_2 l0_2.length c0_2,.slice A0_3 l0_3.length c0_3] 47 (0,0)) (by (with_reducible repeat (first|refine zL ?_ _|refine zM ?_|refine zK ?_ _));exact BK454.out) hb);have n1_:=zA (zH (by repeat (first|(with_reducible first|exact HB.out|apply zD|apply zC|apply zE|refine zF ?_ GE454.out)|exact HB.out)) hb);have n2_:=zA (hbox);have n3_:=zA ((by rw [hg];exact (zG (by repeat (first|(with_reducible first|exact HB.out|apply zD|apply zC|apply zE|refine zF ?_ GE454.out)|exact HB.out))):w.heap.size ≤ gb455));have n4_:=zA ((by rw [hg];exact (zG (by repeat (first|(with_reducible first|exact HB.out|apply zD|apply zC|apply zE|refine zF ?_ GE454.out)|exact HB.out))):w.heap.size ≤ gb455));have n5_:=zA ((by rw [hg];exact Nat.ne_of_lt (blk_lt (g:=gb454) (o:=.cells #[.slice A0_0 l0_0.length c0_0,.slice A0_1 l0_1.length c0_1,.slice A0_2 l0_2.length c0_2,.slice A0_3 l0_3.length c0_3] 47 (0,0)) (by (with_reducible repeat (first|refine zL ?_ _|refine zM ?_|refine zK ?_ _));exact BK454.out)):gb454 ≠ gb455));have n6_:=zA ((by rw [hg];exact Nat.ne_of_gt (blk_lt (g:=gb454) (o:=.cells #[.slice A0_0 l0_0.length c0_0,.slice A0_1 l0_1.length c0_1,.slice A0_2 l0_2.length c0_2,.slice A0_3 l0_3.length c0_3] 47 (0,0)) (by (with_reducible repeat (first|refine zL ?_ _|refine zM ?_|refine zK ?_ _));exact BK454.out)):gb455 ≠ gb454));clear BK454;clear HB;have BK454:=n0_;have HB:=n1_;have BK455:=n2_;have GW455:=n3_;have GE455:=n4_;have NB454_455:=n5_;have NB455_454:=n6_;clear n0_ n1_ n2_ n3_ n4_ n5_ n6_;clear hb hbox hg;have hnb10:=NB454_455.out;have hnc10:=NB455_454.out;have hcz11_0:w9.cell? ⟨gb454,0,none⟩ = some (.slice A0_0 l0_0.length c0_0):=(zI BK454.out 0).trans rfl;have hcz11_1:w9.cell? ⟨gb454,1,none⟩ = some (.slice A0_1 l0_1.length c0_1):=(zI BK454.out 1).trans rfl;have hcz11_2:w9.cell? ⟨gb454,2,none⟩ = some (.slice A0_2 l0_2.length c0_2):=(zI BK454.out 2).trans rfl;have hcz11_3:w9.cell? ⟨gb454,3,none⟩ = some (.slice A0_3 l0_3.length c0_3):=(zI BK454.out 3).trans rfl;have hfz11_0:=zJ BK454.out 0;have hfz11_1:=zJ BK454.out 1;have hfz11_2:=zJ BK454.out 2;have hfz11_3:=zJ BK454.out 3;have hcz12_0:w9.cell? ⟨gb455,0,none⟩ = some (.slice A1_0 l1_0.length c1_0):=(zI BK455.out 0).trans rfl;have hcz12_1:w9.cell? ⟨gb455,1,none⟩ = some (.slice A1_1 l1_1.length c1_1):=(zI BK455.out 1).trans rfl;have hcz12_2:w9.cell? ⟨gb455,2,none⟩ = some (.slice A1_2 l1_2.length c1_2):=(zI BK455.out 2).trans rfl;have hcz12_3:w9.cell? ⟨gb455,3,none⟩ = some (.slice A1_3 l1_3.length c1_3):=(zI BK455.out 3).trans rfl;have hfz12_0:=zJ BK455.out 0;have hfz12_1:=zJ BK455.out 1;have hfz12_2:=zJ BK455.out 2;have hfz12_3:=zJ BK455.out 3)|((with_reducible refine zU (f:=18) rfl ?_);refine goesL_ (some 9) rfl rfl Tryd.func18 (by kernel_rfl) rfl #[.agg #[.slice A0_0 l0_0.length c0_0,.slice A0_1 l0_1.length c0_1],.agg #[.slice A1_0 l1_0.length c1_0,.slice A1_1 l1_1.length c1_1]] rfl (by (try simp only [zx,zy,zz]);first|done|rfl|(simp only [zd,zt];rfl)) ?_;(with_reducible refine (foretelllaw_sameModel.calls k _ _ l0_0 _ _ l0_1 _ _ l1_0 _ _ l1_1 true _ ?side1 ?side2 ?side3 ?side4 ?side5 ?side6 ?side7 ?side8 A3.out).mono ?_);(case side1=>repeat (first|exact (zT HR0_0.out HB.out)|(with_reducible refine Kd.C_alloc ?_ _)|(with_reducible refine Kd.C_drewN ?_ _)|(with_reducible refine Kd.C_drew ?_)));(case side2=>exact HC0_0.out);(case side3=>repeat (first|exact (zT HR0_1.out HB.out)|(with_reducible refine Kd.C_alloc ?_ _)|(with_reducible refine Kd.C_drewN ?_ _)|(with_reducible refine Kd.C_drew ?_)));(case side4=>exact HC0_1.out);(case side5=>repeat (first|exact (zT HR1_0.out HB.out)|(with_reducible refine Kd.C_alloc ?_ _)|(with_reducible refine Kd.C_drewN ?_ _)|(with_reducible refine Kd.C_drew ?_)));(case side6=>exact HC1_0.out);(case side7=>repeat (first|exact (zT HR1_1.out HB.out)|(with_reducible refine Kd.C_alloc ?_ _)|(with_reducible refine Kd.C_drewN ?_ _)|(with_reducible refine Kd.C_drew ?_)));(case side8=>exact HC1_1.out);rintro e w13 ⟨rfl,hb⟩;refine ⟨_,rfl,?_⟩;have n0_:=zA (zN (g:=gb454) (o:=.cells #[.slice A0_0 l0_0.length c0_0,.slice A0_1 l0_1.length c0_1,.slice A0_2 l0_2.length c0_2,.slice A0_3 l0_3.length c0_3] 47 (0,0)) (by (with_reducible repeat (first|refine zL ?_ _|refine zM ?_|refine zK ?_ _));exact BK454.out) hb);have n1_:=zA (zN (g:=gb455) (o:=.cells #[.slice A1_0 l1_0.length c1_0,.slice A1_1 l1_1.length c1_1,.slice A1_2 l1_2.length c1_2,.slice A1_3 l1_3.length c1_3] 47 (0,0)) (by (with_reducible repeat (first|refine zL ?_ _|refine zM ?_|refine zK ?_ _));exact BK455.out) hb);have n2_:=zA (zH (by repeat (first|(with_reducible first|exact HB.out|apply zD|apply zC|apply zE|refine zF ?_ GE454.out|refine zF ?_ GE455.out)|exact HB.out)) hb);clear BK454;clear BK455;clear HB;have BK454:=n0_;have BK455:=n1_;have HB:=n2_;clear n0_ n1_ n2_;(try clear hb);(try clear hb2);(try clear hk);(try clear hi);have hcz14_0:w13.cell? ⟨gb454,0,none⟩ = some (.slice A0_0 l0_0.length c0_0):=(zI BK454.out 0).trans rfl;have hcz14_1:w13.cell? ⟨gb454,1,none⟩ = some (.slice A0_1 l0_1.length c0_1):=(zI BK454.out 1).trans rfl;have hcz14_2:w13.cell? ⟨gb454,2,none⟩ = some (.slice A0_2 l0_2.length c0_2):=(zI BK454.out 2).trans rfl;have hcz14_3:w13.cell? ⟨gb454,3,none⟩ = some (.slice A0_3 l0_3.length c0_3):=(zI BK454.out 3).trans rfl;have hfz14_0:=zJ BK454.out 0;have hfz14_1:=zJ BK454.out 1;have hfz14_2:=zJ BK454.out 2;have hfz14_3:=zJ BK454.out 3;have hcz15_0:w13.cell? ⟨gb455,0,none⟩ = some (.slice A1_0 l1_0.length c1_0):=(zI BK455.out 0).trans rfl;have hcz15_1:w13.cell? ⟨gb455,1,none⟩ = some (.slice A1_1 l1_1.length c1_1):=(zI BK455.out 1).trans rfl;have hcz15_2:w13.cell? ⟨gb455,2,none⟩ = some (.slice A1_2 l1_2.length c1_2):=(zI BK455.out 2).trans rfl;have hcz15_3:w13.cell? ⟨gb455,3,none⟩ = some (.slice A1_3 l1_3.length c1_3):=(zI BK455.out 3).trans rfl;have hfz15_0:=zJ BK455.out 0;have hfz15_1:=zJ BK455.out 1;have hfz15_2:=zJ BK455.out 2;have hfz15_3:=zJ BK455.out 3)|(go_at_call 59;(with_reducible refine (foretelllaw_sameTerms.calls k _ _ l0_2 _ _ l1_2 true _ ?side1 ?side2 ?side3 ?side4 A5.out).mono ?_);(case side1=>repeat (first|exact (zT HR0_2.out HB.out)|(with_reducible refine Kd.C_alloc ?_ _)|(with_reducible refine Kd.C_drewN ?_ _)|(with_reducible refine Kd.C_drew ?_)));(case side2=>exact HC0_2.out);(case side3=>repeat (first|exact (zT HR1_2.out HB.out)|(with_reducible refine Kd.C_alloc ?_ _)|(with_reducible refine Kd.C_drewN ?_ _)|(with_reducible refine Kd.C_drew ?_)));(case side4=>exact HC1_2.out);rintro e w' ⟨rfl,⟨nd,rfl⟩⟩)|(go_at_call 52;(with_reducible refine (foretelllaw_sameOps.calls k _ _ l0_3 _ _ l1_3 t458 _ ?side1 ?side2 ?side3 ?side4 A7.out).mono ?_);(case side1=>repeat (first|exact (zT HR0_3.out (by repeat (first|(with_reducible first|exact HB.out|apply zD|apply zC|apply zE|refine zF ?_ GE454.out|refine zF ?_ GE455.out)|exact HB.out)))|(with_reducible refine Kd.C_alloc ?_ _)|(with_reducible refine Kd.C_drewN ?_ _)|(with_reducible refine Kd.C_drew ?_)));(case side2=>exact HC0_3.out);(case side3=>repeat (first|exact (zT HR1_3.out (by repeat (first|(with_reducible first|exact HB.out|apply zD|apply zC|apply zE|refine zF ?_ GE454.out|refine zF ?_ GE455.out)|exact HB.out)))|(with_reducible refine Kd.C_alloc ?_ _)|(with_reducible refine Kd.C_drewN ?_ _)|(with_reducible refine Kd.C_drew ?_)));(case side4=>exact HC1_3.out);rintro e w' ⟨rfl,⟨nd,rfl⟩⟩))
   go_ret
   exact ⟨by first|rfl|(simp [errW_none,errW_some] <;> rfl)|(simp [*,errW_none,errW_some] <;> rfl),by repeat (first|(with_reducible first|exact HB.out|apply zD|apply zC|apply zE|refine zF ?_ GE454.out|refine zF ?_ GE455.out)|exact HB.out)⟩
  ·replace c6:=Bool.eq_false_iff.mpr c6
   subst c6
   have H1:(some false) = some r:=by rw [if_neg (show ¬ (false = true) by decide)] at H;exact H
   clear H
   have H:=H1
   clear H1
   obtain rfl:=Option.some.inj H
   go_enter Tryd.func35,Tryd.ntmps35
   go_wp2_with (first|((with_reducible refine zV (N:=2) rfl ?_);refine zW ?hg (N:=2) ?hd (cs:=#[.slice A0_0 l0_0.length c0_0,.slice A0_1 l0_1.length c0_1,.slice A0_2 l0_2.length c0_2,.slice A0_3 l0_3.length c0_3]) (t:=47) ?hr ?_;(case hd=>rfl);(case hg=>rfl);(case hr=>first|(go_simp;done)|(go_simp;rfl));intro gb454 hg w16 hbox hb;have n0_:=zA (zH (by repeat (first|(with_reducible first|exact HB.out|apply zD|apply zC|apply zE)|exact HB.out)) hb);have n1_:=zA (hbox);have n2_:=zA ((by rw [hg];exact (zG (by repeat (first|(with_reducible first|exact HB.out|apply zD|apply zC|apply zE)|exact HB.out))):w.heap.size ≤ gb454));have n3_:=zA ((by rw [hg];exact (zG (by repeat (first|(with_reducible first|exact HB.out|apply zD|apply zC|apply zE)|exact HB.out))):w.heap.size ≤ gb454));clear HB;have HB:=n0_;have BK454:=n1_;have GW454:=n2_;have GE454:=n3_;clear n0_ n1_ n2_ n3_;clear hb hbox hg)|((with_reducible refine zV (N:=3) rfl ?_);refine zW ?hg (N:=3) ?hd (cs:=#[.slice A1_0 l1_0.length c1_0,.slice A1_1 l1_1.length c1_1,.slice A1_2 l1_2.length c1_2,.slice A1_3 l1_3.length c1_3]) (t:=47) ?hr ?_;(case hd=>rfl);(case hg=>rfl);(case hr=>first|(go_simp;done)|(go_simp;rfl));intro gb455 hg w17 hbox hb;have n0_:=zA (zN (g:=gb454) (o:=.cells #[.slice A0_0 l0_0.length c0_0,.slice A0_1 l0_1.length c0_1,.slice A0_2 l0_2.length c0_2,.slice A0_3 l0_3.length c0_3] 47 (0,0)) (by (with_reducible repeat (first|refine zL ?_ _|refine zM ?_|refine zK ?_ _));exact BK454.out) hb);have n1_:=zA (zH (by repeat (first|(with_reducible first|exact HB.out|apply zD|apply zC|apply zE|refine zF ?_ GE454.out)|exact HB.out)) hb);have n2_:=zA (hbox);have n3_:=zA ((by rw [hg];exact (zG (by repeat (first|(with_reducible first|exact HB.out|apply zD|apply zC|apply zE|refine zF ?_ GE454.out)|exact HB.out))):w.heap.size ≤ gb455));have n4_:=zA ((by rw [hg];exact (zG (by repeat (first|(with_reducible first|exact HB.out|apply zD|apply zC|apply zE|refine zF ?_ GE454.out)|exact HB.out))):w.heap.size ≤ gb455));have n5_:=zA ((by rw [hg];exact Nat.ne_of_lt (blk_lt (g:=gb454) (o:=.cells #[.slice A0_0 l0_0.length c0_0,.slice A0_1 l0_1.length c0_1,.slice A0_2 l0_2.length c0_2,.slice A0_3 l0_3.length c0_3] 47 (0,0)) (by (with_reducible repeat (first|refine zL ?_ _|refine zM ?_|refine zK ?_ _));exact BK454.out)):gb454 ≠ gb455));have n6_:=zA ((by rw [hg];exact Nat.ne_of_gt (blk_lt (g:=gb454) (o:=.cells #[.slice A0_0 l0_0.length c0_0,.slice A0_1 l0_1.length c0_1,.slice A0_2 l0_2.length c0_2,.slice A0_3 l0_3.length c0_3] 47 (0,0)) (by (with_reducible repeat (first|refine zL ?_ _|refine zM ?_|refine zK ?_ _));exact BK454.out)):gb455 ≠ gb454));clear BK454;clear HB;have BK454:=n0_;have HB:=n1_;have BK455:=n2_;have GW455:=n3_;have GE455:=n4_;have NB454_455:=n5_;have NB455_454:=n6_;clear n0_ n1_ n2_ n3_ n4_ n5_ n6_;clear hb hbox hg;have hnb18:=NB454_455.out;have hnc18:=NB455_454.out;have hcz19_0:w17.cell? ⟨gb454,0,none⟩ = some (.slice A0_0 l0_0.length c0_0):=(zI BK454.out 0).trans rfl;have hcz19_1:w17.cell? ⟨gb454,1,none⟩ = some (.slice A0_1 l0_1.length c0_1):=(zI BK454.out 1).trans rfl;have hcz19_2:w17.cell? ⟨gb454,2,none⟩ = some (.slice A0_2 l0_2.length c0_2):=(zI BK454.out 2).trans rfl;have hcz19_3:w17.cell? ⟨gb454,3,none⟩ = some (.slice A0_3 l0_3.length c0_3):=(zI BK454.out 3).trans rfl;have hfz19_0:=zJ BK454.out 0;have hfz19_1:=zJ BK454.out 1;have hfz19_2:=zJ BK454.out 2;have hfz19_3:=zJ BK454.out 3;have hcz20_0:w17.cell? ⟨gb455,0,none⟩ = some (.slice A1_0 l1_0.length c1_0):=(zI BK455.out 0).trans rfl;have hcz20_1:w17.cell? ⟨gb455,1,none⟩ = some (.slice A1_1 l1_1.length c1_1):=(zI BK455.out 1).trans rfl;have hcz20_2:w17.cell? ⟨gb455,2,none⟩ = some (.slice A1_2 l1_2.length c1_2):=(zI BK455.out 2).trans rfl;have hcz20_3:w17.cell? ⟨gb455,3,none⟩ = some (.slice A1_3 l1_3.length c1_3):=(zI BK455.out 3).trans rfl;have hfz20_0:=zJ BK455.out 0;have hfz20_1:=zJ BK455.out 1;have hfz20_2:=zJ BK455.out 2;have hfz20_3:=zJ BK455.out 3)|((with_reducible refine zU (f:=18) rfl ?_);refine goesL_ (some 9) rfl rfl Tryd.func18 (by kernel_rfl) rfl #[.agg #[.slice A0_0 l0_0.length c0_0,.slice A0_1 l0_1.length c0_1],.agg #[.slice A1_0 l1_0.length c1_0,.slice A1_1 l1_1.length c1_1]] rfl (by (try simp only [zx,zy,zz]);first|done|rfl|(simp only [zd,zt];rfl)) ?_;(with_reducible refine (foretelllaw_sameModel.calls k _ _ l0_0 _ _ l0_1 _ _ l1_0 _ _ l1_1 true _ ?side1 ?side2 ?side3 ?side4 ?side5 ?side6 ?side7 ?side8 A3.out).mono ?_);(case side1=>repeat (first|exact (zT HR0_0.out HB.out)|(with_reducible refine Kd.C_alloc ?_ _)|(with_reducible refine Kd.C_drewN ?_ _)|(with_reducible refine Kd.C_drew ?_)));(case side2=>exact HC0_0.out);(case side3=>repeat (first|exact (zT HR0_1.out HB.out)|(with_reducible refine Kd.C_alloc ?_ _)|(with_reducible refine Kd.C_drewN ?_ _)|(with_reducible refine Kd.C_drew ?_)));(case side4=>exact HC0_1.out);(case side5=>repeat (first|exact (zT HR1_0.out HB.out)|(with_reducible refine Kd.C_alloc ?_ _)|(with_reducible refine Kd.C_drewN ?_ _)|(with_reducible refine Kd.C_drew ?_)));(case side6=>exact HC1_0.out);(case side7=>repeat (first|exact (zT HR1_1.out HB.out)|(with_reducible refine Kd.C_alloc ?_ _)|(with_reducible refine Kd.C_drewN ?_ _)|(with_reducible refine Kd.C_drew ?_)));(case side8=>exact HC1_1.out);rintro e w21 ⟨rfl,hb⟩;refine ⟨_,rfl,?_⟩;have n0_:=zA (zN (g:=gb454) (o:=.cells #[.slice A0_0 l0_0.length c0_0,.slice A0_1 l0_1.length c0_1,.slice A0_2 l0_2.length c0_2,.slice A0_3 l0_3.length c0_3] 47 (0,0)) (by (with_reducible repeat (first|refine zL ?_ _|refine zM ?_|refine zK ?_ _));exact BK454.out) hb);have n1_:=zA (zN (g:=gb455) (o:=.cells #[.slice A1_0 l1_0.length c1_0,.slice A1_1 l1_1.length c1_1,.slice A1_2 l1_2.length c1_2,.slice A1_3 l1_3.length c1_3] 47 (0,0)) (by (with_reducible repeat (first|refine zL ?_ _|refine zM ?_|refine zK ?_ _));exact BK455.out) hb);have n2_:=zA (zH (by repeat (first|(with_reducible first|exact HB.out|apply zD|apply zC|apply zE|refine zF ?_ GE454.out|refine zF ?_ GE455.out)|exact HB.out)) hb);clear BK454;clear BK455;clear HB;have BK454:=n0_;have BK455:=n1_;have HB:=n2_;clear n0_ n1_ n2_;(try clear hb);(try clear hb2);(try clear hk);(try clear hi);have hcz22_0:w21.cell? ⟨gb454,0,none⟩ = some (.slice A0_0 l0_0.length c0_0):=(zI BK454.out 0).trans rfl;have hcz22_1:w21.cell? ⟨gb454,1,none⟩ = some (.slice A0_1 l0_1.length c0_1):=(zI BK454.out 1).trans rfl;have hcz22_2:w21.cell? ⟨gb454,2,none⟩ = some (.slice A0_2 l0_2.length c0_2):=(zI BK454.out 2).trans rfl;have hcz22_3:w21.cell? ⟨gb454,3,none⟩ = some (.slice A0_3 l0_3.length c0_3):=(zI BK454.out 3).trans rfl;have hfz22_0:=zJ BK454.out 0;have hfz22_1:=zJ BK454.out 1;have hfz22_2:=zJ BK454.out 2;have hfz22_3:=zJ BK454.out 3;have hcz23_0:w21.cell? ⟨gb455,0,none⟩ = some (.slice A1_0 l1_0.length c1_0):=(zI BK455.out 0).trans rfl;have hcz23_1:w21.cell? ⟨gb455,1,none⟩ = some (.slice A1_1 l1_1.length c1_1):=(zI BK455.out 1).trans rfl;have hcz23_2:w21.cell? ⟨gb455,2,none⟩ = some (.slice A1_2 l1_2.length c1_2):=(zI BK455.out 2).trans rfl;have hcz23_3:w21.cell? ⟨gb455,3,none⟩ = some (.slice A1_3 l1_3.length c1_3):=(zI BK455.out 3).trans rfl;have hfz23_0:=zJ BK455.out 0;have hfz23_1:=zJ BK455.out 1;have hfz23_2:=zJ BK455.out 2;have hfz23_3:=zJ BK455.out 3)|(go_at_call 59;(with_reducible refine (foretelllaw_sameTerms.calls k _ _ l0_2 _ _ l1_2 false _ ?side1 ?side2 ?side3 ?side4 A5.out).mono ?_);(case side1=>repeat (first|exact (zT HR0_2.out HB.out)|(with_reducible refine Kd.C_alloc ?_ _)|(with_reducible refine Kd.C_drewN ?_ _)|(with_reducible refine Kd.C_drew ?_)));(case side2=>exact HC0_2.out);(case side3=>repeat (first|exact (zT HR1_2.out HB.out)|(with_reducible refine Kd.C_alloc ?_ _)|(with_reducible refine Kd.C_drewN ?_ _)|(with_reducible refine Kd.C_drew ?_)));(case side4=>exact HC1_2.out);rintro e w' ⟨rfl,⟨nd,rfl⟩⟩))
   go_ret
   exact ⟨by first|rfl|(simp [errW_none,errW_some] <;> rfl)|(simp [*,errW_none,errW_some] <;> rfl),by repeat (first|(with_reducible first|exact HB.out|apply zD|apply zC|apply zE|refine zF ?_ GE454.out|refine zF ?_ GE455.out)|exact HB.out)⟩
 ·replace c4:=Bool.eq_false_iff.mpr c4
  subst c4
  have H1:(some false) = some r:=by rw [if_neg (show ¬ (false = true) by decide)] at H;exact H
  clear H
  have H:=H1
  clear H1
  obtain rfl:=Option.some.inj H
  go_enter Tryd.func35,Tryd.ntmps35
  go_wp2_with (first|((with_reducible refine zV (N:=2) rfl ?_);refine zW ?hg (N:=2) ?hd (cs:=#[.slice A0_0 l0_0.length c0_0,.slice A0_1 l0_1.length c0_1,.slice A0_2 l0_2.length c0_2,.slice A0_3 l0_3.length c0_3]) (t:=47) ?hr ?_;(case hd=>rfl);(case hg=>rfl);(case hr=>first|(go_simp;done)|(go_simp;rfl));intro gb454 hg w24 hbox hb;have n0_:=zA (zH (by repeat (first|(with_reducible first|exact HB.out|apply zD|apply zC|apply zE)|exact HB.out)) hb);have n1_:=zA (hbox);have n2_:=zA ((by rw [hg];exact (zG (by repeat (first|(with_reducible first|exact HB.out|apply zD|apply zC|apply zE)|exact HB.out))):w.heap.size ≤ gb454));have n3_:=zA ((by rw [hg];exact (zG (by repeat (first|(with_reducible first|exact HB.out|apply zD|apply zC|apply zE)|exact HB.out))):w.heap.size ≤ gb454));clear HB;have HB:=n0_;have BK454:=n1_;have GW454:=n2_;have GE454:=n3_;clear n0_ n1_ n2_ n3_;clear hb hbox hg)|((with_reducible refine zV (N:=3) rfl ?_);refine zW ?hg (N:=3) ?hd (cs:=#[.slice A1_0 l1_0.length c1_0,.slice A1_1 l1_1.length c1_1,.slice A1_2 l1_2.length c1_2,.slice A1_3 l1_3.length c1_3]) (t:=47) ?hr ?_;(case hd=>rfl);(case hg=>rfl);(case hr=>first|(go_simp;done)|(go_simp;rfl));intro gb455 hg w25 hbox hb;have n0_:=zA (zN (g:=gb454) (o:=.cells #[.slice A0_0 l0_0.length c0_0,.slice A0_1 l0_1.length c0_1,.slice A0_2 l0_2.length c0_2,.slice A0_3 l0_3.length c0_3] 47 (0,0)) (by (with_reducible repeat (first|refine zL ?_ _|refine zM ?_|refine zK ?_ _));exact BK454.out) hb);have n1_:=zA (zH (by repeat (first|(with_reducible first|exact HB.out|apply zD|apply zC|apply zE|refine zF ?_ GE454.out)|exact HB.out)) hb);have n2_:=zA (hbox);have n3_:=zA ((by rw [hg];exact (zG (by repeat (first|(with_reducible first|exact HB.out|apply zD|apply zC|apply zE|refine zF ?_ GE454.out)|exact HB.out))):w.heap.size ≤ gb455));have n4_:=zA ((by rw [hg];exact (zG (by repeat (first|(with_reducible first|exact HB.out|apply zD|apply zC|apply zE|refine zF ?_ GE454.out)|exact HB.out))):w.heap.size ≤ gb455));have n5_:=zA ((by rw [hg];exact Nat.ne_of_lt (blk_lt (g:=gb454) (o:=.cells #[.slice A0_0 l0_0.length c0_0,.slice A0_1 l0_1.length c0_1,.slice A0_2 l0_2.length c0_2,.slice A0_3 l0_3.length c0_3] 47 (0,0)) (by (with_reducible repeat (first|refine zL ?_ _|refine zM ?_|refine zK ?_ _));exact BK454.out)):gb454 ≠ gb455));have n6_:=zA ((by rw [hg];exact Nat.ne_of_gt (blk_lt (g:=gb454) (o:=.cells #[.slice A0_0 l0_0.length c0_0,.slice A0_1 l0_1.length c0_1,.slice A0_2 l0_2.length c0_2,.slice A0_3 l0_3.length c0_3] 47 (0,0)) (by (with_reducible repeat (first|refine zL ?_ _|refine zM ?_|refine zK ?_ _));exact BK454.out)):gb455 ≠ gb454));clear BK454;clear HB;have BK454:=n0_;have HB:=n1_;have BK455:=n2_;have GW455:=n3_;have GE455:=n4_;have NB454_455:=n5_;have NB455_454:=n6_;clear n0_ n1_ n2_ n3_ n4_ n5_ n6_;clear hb hbox hg;have hnb26:=NB454_455.out;have hnc26:=NB455_454.out;have hcz27_0:w25.cell? ⟨gb454,0,none⟩ = some (.slice A0_0 l0_0.length c0_0):=(zI BK454.out 0).trans rfl;have hcz27_1:w25.cell? ⟨gb454,1,none⟩ = some (.slice A0_1 l0_1.length c0_1):=(zI BK454.out 1).trans rfl;have hcz27_2:w25.cell? ⟨gb454,2,none⟩ = some (.slice A0_2 l0_2.length c0_2):=(zI BK454.out 2).trans rfl;have hcz27_3:w25.cell? ⟨gb454,3,none⟩ = some (.slice A0_3 l0_3.length c0_3):=(zI BK454.out 3).trans rfl;have hfz27_0:=zJ BK454.out 0;have hfz27_1:=zJ BK454.out 1;have hfz27_2:=zJ BK454.out 2;have hfz27_3:=zJ BK454.out 3;have hcz28_0:w25.cell? ⟨gb455,0,none⟩ = some (.slice A1_0 l1_0.length c1_0):=(zI BK455.out 0).trans rfl;have hcz28_1:w25.cell? ⟨gb455,1,none⟩ = some (.slice A1_1 l1_1.length c1_1):=(zI BK455.out 1).trans rfl;have hcz28_2:w25.cell? ⟨gb455,2,none⟩ = some (.slice A1_2 l1_2.length c1_2):=(zI BK455.out 2).trans rfl;have hcz28_3:w25.cell? ⟨gb455,3,none⟩ = some (.slice A1_3 l1_3.length c1_3):=(zI BK455.out 3).trans rfl;have hfz28_0:=zJ BK455.out 0;have hfz28_1:=zJ BK455.out 1;have hfz28_2:=zJ BK455.out 2;have hfz28_3:=zJ BK455.out 3)|((with_reducible refine zU (f:=18) rfl ?_);refine goesL_ (some 9) rfl rfl Tryd.func18 (by kernel_rfl) rfl #[.agg #[.slice A0_0 l0_0.length c0_0,.slice A0_1 l0_1.length c0_1],.agg #[.slice A1_0 l1_0.length c1_0,.slice A1_1 l1_1.length c1_1]] rfl (by (try simp only [zx,zy,zz]);first|done|rfl|(simp only [zd,zt];rfl)) ?_;(with_reducible refine (foretelllaw_sameModel.calls k _ _ l0_0 _ _ l0_1 _ _ l1_0 _ _ l1_1 false _ ?side1 ?side2 ?side3 ?side4 ?side5 ?side6 ?side7 ?side8 A3.out).mono ?_);(case side1=>repeat (first|exact (zT HR0_0.out HB.out)|(with_reducible refine Kd.C_alloc ?_ _)|(with_reducible refine Kd.C_drewN ?_ _)|(with_reducible refine Kd.C_drew ?_)));(case side2=>exact HC0_0.out);(case side3=>repeat (first|exact (zT HR0_1.out HB.out)|(with_reducible refine Kd.C_alloc ?_ _)|(with_reducible refine Kd.C_drewN ?_ _)|(with_reducible refine Kd.C_drew ?_)));(case side4=>exact HC0_1.out);(case side5=>repeat (first|exact (zT HR1_0.out HB.out)|(with_reducible refine Kd.C_alloc ?_ _)|(with_reducible refine Kd.C_drewN ?_ _)|(with_reducible refine Kd.C_drew ?_)));(case side6=>exact HC1_0.out);(case side7=>repeat (first|exact (zT HR1_1.out HB.out)|(with_reducible refine Kd.C_alloc ?_ _)|(with_reducible refine Kd.C_drewN ?_ _)|(with_reducible refine Kd.C_drew ?_)));(case side8=>exact HC1_1.out);rintro e w29 ⟨rfl,hb⟩;refine ⟨_,rfl,?_⟩;have n0_:=zA (zN (g:=gb454) (o:=.cells #[.slice A0_0 l0_0.length c0_0,.slice A0_1 l0_1.length c0_1,.slice A0_2 l0_2.length c0_2,.slice A0_3 l0_3.length c0_3] 47 (0,0)) (by (with_reducible repeat (first|refine zL ?_ _|refine zM ?_|refine zK ?_ _));exact BK454.out) hb);have n1_:=zA (zN (g:=gb455) (o:=.cells #[.slice A1_0 l1_0.length c1_0,.slice A1_1 l1_1.length c1_1,.slice A1_2 l1_2.length c1_2,.slice A1_3 l1_3.length c1_3] 47 (0,0)) (by (with_reducible repeat (first|refine zL ?_ _|refine zM ?_|refine zK ?_ _));exact BK455.out) hb);have n2_:=zA (zH (by repeat (first|(with_reducible first|exact HB.out|apply zD|apply zC|apply zE|refine zF ?_ GE454.out|refine zF ?_ GE455.out)|exact HB.out)) hb);clear BK454;clear BK455;clear HB;have BK454:=n0_;have BK455:=n1_;have HB:=n2_;clear n0_ n1_ n2_;(try clear hb);(try clear hb2);(try clear hk);(try clear hi)))
  go_ret
  exact ⟨by first|rfl|(simp [errW_none,errW_some] <;> rfl)|(simp [*,errW_none,errW_some] <;> rfl),by repeat (first|(with_reducible first|exact HB.out|apply zD|apply zC|apply zE|refine zF ?_ GE454.out|refine zF ?_ GE455.out)|exact HB.out)⟩
def foretelllaw_ProductChecks.f (k:Nat) (l0_0:List (S74)) (l0_1:List (S68)) (l0_2:List (List (S94))) (l0_3:List (S94)):Option (Bool):=(foretelllaw_tasks.f k l0_0 l0_1 l0_2 l0_3).bind fun bt460=>((product_Check.f k bt460.1 bt460.2.1 bt460.2.2.1 bt460.2.2.2).bind fun t473=>((foretellref_TaskFault.f k l0_0 l0_1 l0_2 l0_3).bind fun t474=>(if t473 = t474 then ((foretelllaw_sameTask.f k bt460.1 bt460.2.1 bt460.2.2.1 bt460.2.2.2 l0_0 l0_1 l0_2 l0_3).bind fun t475=>(some t475)) else (some false))))
theorem foretelllaw_ProductChecks.mono:∀ a0 a1 a2 a3 k,LeO (foretelllaw_ProductChecks.f k a0 a1 a2 a3) (foretelllaw_ProductChecks.f (k + 1) a0 a1 a2 a3):=by
 intro a0 a1 a2 a3 k
 unfold foretelllaw_ProductChecks.f
 repeat' first
   | (with_reducible exact foretelllaw_sameTask.mono _ _ _ _ _ _ _ _ _)
   | (with_reducible exact foretelllaw_tasks.mono _ _ _ _ _)
   | (with_reducible exact foretellref_TaskFault.mono _ _ _ _ _)
   | (with_reducible exact product_Check.mono _ _ _ _ _)
   | (with_reducible exact LeO.refl _)
   | (with_reducible exact LeO.none _)
   | (with_reducible refine LeO.ite ?_ ?_)
   | (with_reducible refine LeO.bind ?_ (fun _=>?_))
   | exact foretelllaw_sameTask.mono _ _ _ _ _ _ _ _ _
   | exact foretelllaw_tasks.mono _ _ _ _ _
   | exact foretellref_TaskFault.mono _ _ _ _ _
   | exact product_Check.mono _ _ _ _ _
   | exact LeO.none _
   | refine LeO.ite ?_ ?_
   | refine LeO.bind ?_ (fun _=>?_)
set_option maxHeartbeats 8000000 in
set_option maxRecDepth 100000 in
theorem foretelllaw_ProductChecks.calls (k:Nat) (A0_0:Option Addr) (c0_0:Nat) (l0_0:List (S74)) (A0_1:Option Addr) (c0_1:Nat) (l0_1:List (S68)) (A0_2:Option Addr) (c0_2:Nat) (l0_2:List (List (S94))) (A0_3:Option Addr) (c0_3:Nat) (l0_3:List (S94)) (r:Bool) (w:World) (hr0_0:Kd.C k74 w A0_0 l0_0.length l0_0) (hc0_0:l0_0.length ≤ c0_0) (hr0_1:Kd.C k68 w A0_1 l0_1.length l0_1) (hc0_1:l0_1.length ≤ c0_1) (hr0_2:Kd.C (Kd.slice 94 k94) w A0_2 l0_2.length l0_2) (hc0_2:l0_2.length ≤ c0_2) (hr0_3:Kd.C k94 w A0_3 l0_3.length l0_3) (hc0_3:l0_3.length ≤ c0_3) (hL:LaidG w) (h:foretelllaw_ProductChecks.f k l0_0 l0_1 l0_2 l0_3 = some r) :
  Calls Tryd.prog 9 #[.agg #[.slice A0_0 l0_0.length c0_0,.slice A0_1 l0_1.length c0_1,.slice A0_2 l0_2.length c0_2,.slice A0_3 l0_3.length c0_3]] w fun e w'=>e = .returned (.bool r)∧Below w.heap.size w w':=by
 have HLd:=zA hL
 clear hL
 have hu47:=Tryd.underlying47
 have HR0_0:=zA hr0_0
 have HC0_0:=zA hc0_0
 clear hr0_0 hc0_0
 have HR0_1:=zA hr0_1
 have HC0_1:=zA hc0_1
 clear hr0_1 hc0_1
 have HR0_2:=zA hr0_2
 have HC0_2:=zA hc0_2
 clear hr0_2 hc0_2
 have HR0_3:=zA hr0_3
 have HC0_3:=zA hc0_3
 clear hr0_3 hc0_3
 have HB:=zA (Below.refl w.heap.size w)
 have H:((foretelllaw_tasks.f k l0_0 l0_1 l0_2 l0_3).bind fun bt460=>((product_Check.f k bt460.1 bt460.2.1 bt460.2.2.1 bt460.2.2.2).bind fun t473=>((foretellref_TaskFault.f k l0_0 l0_1 l0_2 l0_3).bind fun t474=>(if t473 = t474 then ((foretelllaw_sameTask.f k bt460.1 bt460.2.1 bt460.2.2.1 bt460.2.2.2 l0_0 l0_1 l0_2 l0_3).bind fun t475=>(some t475)) else (some false))))) = some r:=h
 clear h
 replace H:=zb.mp H
 obtain ⟨⟨t460,t463,t466,t469⟩,A20,H⟩:=H
 replace H:((product_Check.f k t460 t463 t466 t469).bind fun t473=>((foretellref_TaskFault.f k l0_0 l0_1 l0_2 l0_3).bind fun t474=>(if t473 = t474 then ((foretelllaw_sameTask.f k t460 t463 t466 t469 l0_0 l0_1 l0_2 l0_3).bind fun t475=>(some t475)) else (some false)))) = some r:=H
 have A2:=zA A20
 clear A20
 replace H:=zb.mp H
 obtain ⟨t473,A30,H⟩:=H
 replace H:((foretellref_TaskFault.f k l0_0 l0_1 l0_2 l0_3).bind fun t474=>(if t473 = t474 then ((foretelllaw_sameTask.f k t460 t463 t466 t469 l0_0 l0_1 l0_2 l0_3).bind fun t475=>(some t475)) else (some false))) = some r:=H
 have A3:=zA A30
 clear A30
 replace H:=zb.mp H
 obtain ⟨t474,A40,H⟩:=H
 replace H:(if t473 = t474 then ((foretelllaw_sameTask.f k t460 t463 t466 t469 l0_0 l0_1 l0_2 l0_3).bind fun t475=>(some t475)) else (some false)) = some r:=H
 have A4:=zA A40
 clear A40
 by_cases c5:t473 = t474
 ·rw [if_pos c5] at H
  have c5b0:(t473 == t474) = true:=beq_iff_eq.mpr c5
  have c5b1:(t473 != t474) = false:=bne_eq_false_iff_eq.mpr c5
  clear c5
  replace H:=zb.mp H
  obtain ⟨t475,A60,H⟩:=H
  replace H:(some t475) = some r:=H
  have A6:=zA A60
  clear A60
  obtain rfl:=Option.some.inj H
  go_enter Tryd.func9,Tryd.ntmps9
  go_wp2_with (first|((with_reducible refine zV (N:=1) rfl ?_);refine zW ?hg (N:=1) ?hd (cs:=#[.slice A0_0 l0_0.length c0_0,.slice A0_1 l0_1.length c0_1,.slice A0_2 l0_2.length c0_2,.slice A0_3 l0_3.length c0_3]) (t:=47) ?hr ?_;(case hd=>rfl);(case hg=>rfl);(case hr=>first|(go_simp;done)|(go_simp;rfl));intro gb459 hg w7 hbox hb;have n0_:=zA (zH (by repeat (first|(with_reducible first|exact HB.out|apply zD|apply zC|apply zE)|exact HB.out)) hb);have n1_:=zA (hbox);have n2_:=zA ((by rw [hg];exact (zG (by repeat (first|(with_reducible first|exact HB.out|apply zD|apply zC|apply zE)|exact HB.out))):w.heap.size ≤ gb459));have n3_:=zA ((by rw [hg];exact (zG (by repeat (first|(with_reducible first|exact HB.out|apply zD|apply zC|apply zE)|exact HB.out))):w.heap.size ≤ gb459));clear HB;have HB:=n0_;have BK459:=n1_;have GW459:=n2_;have GE459:=n3_;clear n0_ n1_ n2_ n3_;clear hb hbox hg;have hcz8_0:w7.cell? ⟨gb459,0,none⟩ = some (.slice A0_0 l0_0.length c0_0):=(zI BK459.out 0).trans rfl;have hcz8_1:w7.cell? ⟨gb459,1,none⟩ = some (.slice A0_1 l0_1.length c0_1):=(zI BK459.out 1).trans rfl;have hcz8_2:w7.cell? ⟨gb459,2,none⟩ = some (.slice A0_2 l0_2.length c0_2):=(zI BK459.out 2).trans rfl;have hcz8_3:w7.cell? ⟨gb459,3,none⟩ = some (.slice A0_3 l0_3.length c0_3):=(zI BK459.out 3).trans rfl;have hfz8_0:=zJ BK459.out 0;have hfz8_1:=zJ BK459.out 1;have hfz8_2:=zJ BK459.out 2;have hfz8_3:=zJ BK459.out 3)|((with_reducible refine zU (f:=32) rfl ?_);refine goesL_ (some 7) rfl rfl Tryd.func32 (by kernel_rfl) rfl #[.agg #[.slice A0_0 l0_0.length c0_0,.slice A0_1 l0_1.length c0_1,.slice A0_2 l0_2.length c0_2,.slice A0_3 l0_3.length c0_3]] rfl (by (try simp only [zx,zy,zz]);first|done|rfl|(simp only [zd,zt];rfl)) ?_;(with_reducible refine (foretelllaw_tasks.calls k _ _ l0_0 _ _ l0_1 _ _ l0_2 _ _ l0_3 t460 t463 t466 t469 _ ?side1 ?side2 ?side3 ?side4 ?side5 ?side6 ?side7 ?side8 A2.out).mono ?_);(case side1=>repeat (first|exact (zT HR0_0.out HB.out)|(with_reducible refine Kd.C_alloc ?_ _)|(with_reducible refine Kd.C_drewN ?_ _)|(with_reducible refine Kd.C_drew ?_)));(case side2=>exact HC0_0.out);(case side3=>repeat (first|exact (zT HR0_1.out HB.out)|(with_reducible refine Kd.C_alloc ?_ _)|(with_reducible refine Kd.C_drewN ?_ _)|(with_reducible refine Kd.C_drew ?_)));(case side4=>exact HC0_1.out);(case side5=>repeat (first|exact (zT HR0_2.out HB.out)|(with_reducible refine Kd.C_alloc ?_ _)|(with_reducible refine Kd.C_drewN ?_ _)|(with_reducible refine Kd.C_drew ?_)));(case side6=>exact HC0_2.out);(case side7=>repeat (first|exact (zT HR0_3.out HB.out)|(with_reducible refine Kd.C_alloc ?_ _)|(with_reducible refine Kd.C_drewN ?_ _)|(with_reducible refine Kd.C_drew ?_)));(case side8=>exact HC0_3.out);rintro e w9 ⟨v461,v464,v467,v470,rfl,ho0,ho1,ho2,ho3,hb⟩;refine ⟨_,rfl,?_⟩;have n0_:=zA (Kd.R_lower ho0 (zG (by repeat (first|(with_reducible first|exact HB.out|apply zD|apply zC|apply zE|refine zF ?_ GE459.out)|exact HB.out))));have n1_:=zA (Kd.R_lower ho1 (zG (by repeat (first|(with_reducible first|exact HB.out|apply zD|apply zC|apply zE|refine zF ?_ GE459.out)|exact HB.out))));have n2_:=zA (Kd.S_lower ho2 (zG (by repeat (first|(with_reducible first|exact HB.out|apply zD|apply zC|apply zE|refine zF ?_ GE459.out)|exact HB.out))));have n3_:=zA (Kd.R_lower ho3 (zG (by repeat (first|(with_reducible first|exact HB.out|apply zD|apply zC|apply zE|refine zF ?_ GE459.out)|exact HB.out))));have n4_:=zA (zN (g:=gb459) (o:=.cells #[.slice A0_0 l0_0.length c0_0,.slice A0_1 l0_1.length c0_1,.slice A0_2 l0_2.length c0_2,.slice A0_3 l0_3.length c0_3] 47 (0,0)) (by (with_reducible repeat (first|refine zL ?_ _|refine zM ?_|refine zK ?_ _));exact BK459.out) hb);have n5_:=zA (zH (by repeat (first|(with_reducible first|exact HB.out|apply zD|apply zC|apply zE|refine zF ?_ GE459.out)|exact HB.out)) hb);clear BK459;clear HB;have HO462:=n0_;have HO465:=n1_;have HO468:=n2_;have HO471:=n3_;have BK459:=n4_;have HB:=n5_;clear n0_ n1_ n2_ n3_ n4_ n5_;(try clear hb);(try clear hb2);(try clear hk);(try clear hi);(try clear ho0);(try clear ho1);(try clear ho2);(try clear ho3))|((with_reducible refine zV (N:=3) rfl ?_);refine zW ?hg (N:=3) ?hd (cs:=#[.slice none 0 0,.slice none 0 0,.slice none 0 0,.slice none 0 0]) (t:=47) ?hr ?_;(case hd=>rfl);(case hg=>rfl);(case hr=>first|(go_simp;done)|(go_simp;rfl));intro gb472 hg w10 hbox hb;have n0_:=zA (Kd.R_below (by (with_reducible repeat (first|apply Kd.R_alloc|apply Kd.R_drewN|apply Kd.R_drew));exact HO462.out) hb);have n1_:=zA (Kd.R_below (by (with_reducible repeat (first|apply Kd.R_alloc|apply Kd.R_drewN|apply Kd.R_drew));exact HO465.out) hb);have n2_:=zA (Kd.S_below (by (with_reducible repeat (first|apply Kd.S_alloc|apply Kd.S_drewN|apply Kd.S_drew));exact HO468.out) hb);have n3_:=zA (Kd.R_below (by (with_reducible repeat (first|apply Kd.R_alloc|apply Kd.R_drewN|apply Kd.R_drew));exact HO471.out) hb);have n4_:=zA (zN (g:=gb459) (o:=.cells #[.slice A0_0 l0_0.length c0_0,.slice A0_1 l0_1.length c0_1,.slice A0_2 l0_2.length c0_2,.slice A0_3 l0_3.length c0_3] 47 (0,0)) (by (with_reducible repeat (first|refine zL ?_ _|refine zM ?_|refine zK ?_ _));exact BK459.out) hb);have n5_:=zA (zH (by repeat (first|(with_reducible first|exact HB.out|apply zD|apply zC|apply zE|refine zF ?_ GE459.out)|exact HB.out)) hb);have n6_:=zA (hbox);have n7_:=zA ((by rw [hg];exact (zG (by repeat (first|(with_reducible first|exact HB.out|apply zD|apply zC|apply zE|refine zF ?_ GE459.out)|exact HB.out))):w.heap.size ≤ gb472));have n8_:=zA ((by rw [hg];exact (zG (by repeat (first|(with_reducible first|exact HB.out|apply zD|apply zC|apply zE|refine zF ?_ GE459.out)|exact HB.out))):w.heap.size ≤ gb472));have n9_:=zA ((by rw [hg];exact Nat.ne_of_lt (blk_lt (g:=gb459) (o:=.cells #[.slice A0_0 l0_0.length c0_0,.slice A0_1 l0_1.length c0_1,.slice A0_2 l0_2.length c0_2,.slice A0_3 l0_3.length c0_3] 47 (0,0)) (by (with_reducible repeat (first|refine zL ?_ _|refine zM ?_|refine zK ?_ _));exact BK459.out)):gb459 ≠ gb472));have n10_:=zA ((by rw [hg];exact Nat.ne_of_gt (blk_lt (g:=gb459) (o:=.cells #[.slice A0_0 l0_0.length c0_0,.slice A0_1 l0_1.length c0_1,.slice A0_2 l0_2.length c0_2,.slice A0_3 l0_3.length c0_3] 47 (0,0)) (by (with_reducible repeat (first|refine zL ?_ _|refine zM ?_|refine zK ?_ _));exact BK459.out)):gb472 ≠ gb459));clear HO462;clear HO465;clear HO468;clear HO471;clear BK459;clear HB;have HO462:=n0_;have HO465:=n1_;have HO468:=n2_;have HO471:=n3_;have BK459:=n4_;have HB:=n5_;have BK472:=n6_;have GW472:=n7_;have GE472:=n8_;have NB459_472:=n9_;have NB472_459:=n10_;clear n0_ n1_ n2_ n3_ n4_ n5_ n6_ n7_ n8_ n9_ n10_;clear hb hbox hg;obtain ⟨Ao11,co11,eo11⟩:=Kd.R_slice HO462.out;subst eo11;have hnb12:=NB472_459.out;have hnc12:=NB459_472.out;have hcz13_0:w10.cell? ⟨gb472,0,none⟩ = some (.slice none 0 0):=(zI BK472.out 0).trans rfl;have hcz13_1:w10.cell? ⟨gb472,1,none⟩ = some (.slice none 0 0):=(zI BK472.out 1).trans rfl;have hcz13_2:w10.cell? ⟨gb472,2,none⟩ = some (.slice none 0 0):=(zI BK472.out 2).trans rfl;have hcz13_3:w10.cell? ⟨gb472,3,none⟩ = some (.slice none 0 0):=(zI BK472.out 3).trans rfl;have hfz13_0:=zJ BK472.out 0;have hfz13_1:=zJ BK472.out 1;have hfz13_2:=zJ BK472.out 2;have hfz13_3:=zJ BK472.out 3;obtain ⟨Ao14,co14,eo14⟩:=Kd.R_slice HO465.out;subst eo14;obtain ⟨Ao15,co15,eo15⟩:=Kd.S_slice HO468.out;subst eo15;obtain ⟨Ao16,co16,eo16⟩:=Kd.R_slice HO471.out;subst eo16)|((with_reducible refine zU (f:=33) rfl ?_);refine goesL_ (some 9) rfl rfl Tryd.func33 (by kernel_rfl) rfl #[.agg #[.slice Ao11 t460.length co11,.slice Ao14 t463.length co14,.slice Ao15 t466.length co15,.slice Ao16 t469.length co16]] rfl (by (try simp only [zx,zy,zz]);first|done|rfl|(simp only [zd,zt];rfl)) ?_;(with_reducible refine (product_Check.calls k _ _ t460 _ _ t463 _ _ t466 _ _ t469 t473 _ ?side1 ?side2 ?side3 ?side4 ?side5 ?side6 ?side7 ?side8 ?side9 A3.out).mono ?_);(case side1=>refine (Kd.R_reads' (e:=74) (base:=w.heap.size) (ok:=fun k_=>True) (n:=t460.length) (c:=co11) ?_).2.2;exact (by (with_reducible repeat (first|apply Kd.R_alloc|apply Kd.R_drewN|apply Kd.R_drew));exact (Kd.R_mono (Kd.R_far (p:=⟨gb472,3,none⟩) (Kd.R_far (p:=⟨gb472,2,none⟩) (Kd.R_far (p:=⟨gb472,1,none⟩) (Kd.R_far (p:=⟨gb472,0,none⟩) (Kd.R_types HO462.out BK472.out (by decide)) (fun _ hk=>hk.2) (.slice Ao11 t460.length co11)) (fun _ hk=>hk.2) (.slice Ao14 t463.length co14)) (fun _ hk=>hk.2) (.slice Ao15 t466.length co15)) (fun _ hk=>hk.2) (.slice Ao16 t469.length co16)) (fun _ h_=>h_.1))));(case side2=>exact (Kd.R_reads' HO462.out).2.1);(case side3=>refine (Kd.R_reads' (e:=68) (base:=w.heap.size) (ok:=fun k_=>some k_ ≠ (.slice Ao16 t469.length co16:Value).ownBlock) (n:=t463.length) (c:=co14) ?_).2.2;exact (by (with_reducible repeat (first|apply Kd.R_alloc|apply Kd.R_drewN|apply Kd.R_drew));exact (Kd.R_mono (Kd.R_far (p:=⟨gb472,3,none⟩) (Kd.R_far (p:=⟨gb472,2,none⟩) (Kd.R_far (p:=⟨gb472,1,none⟩) (Kd.R_far (p:=⟨gb472,0,none⟩) (Kd.R_types HO465.out BK472.out (by decide)) (fun _ hk=>hk.2) (.slice Ao11 t460.length co11)) (fun _ hk=>hk.2) (.slice Ao14 t463.length co14)) (fun _ hk=>hk.2) (.slice Ao15 t466.length co15)) (fun _ hk=>hk.2) (.slice Ao16 t469.length co16)) (fun _ h_=>h_.1))));(case side4=>exact (Kd.R_reads' HO465.out).2.1);(case side5=>refine (Kd.S_reads' (e:=45) (base:=w.heap.size) (ok:=fun k_=>some k_ ≠ (.slice Ao16 t469.length co16:Value).ownBlock) (n:=t466.length) (c:=co15) ?_).2.2;exact (by (with_reducible repeat (first|apply Kd.S_alloc|apply Kd.S_drewN|apply Kd.S_drew));exact (Kd.S_mono (Kd.S_far (p:=⟨gb472,3,none⟩) (Kd.S_far (p:=⟨gb472,2,none⟩) (Kd.S_far (p:=⟨gb472,1,none⟩) (Kd.S_far (p:=⟨gb472,0,none⟩) (Kd.S_types HO468.out BK472.out (by decide)) (fun _ hk=>hk.2) (.slice Ao11 t460.length co11)) (fun _ hk=>hk.2) (.slice Ao14 t463.length co14)) (fun _ hk=>hk.2) (.slice Ao15 t466.length co15)) (fun _ hk=>hk.2) (.slice Ao16 t469.length co16)) (fun _ h_=>h_.1))));(case side6=>exact (Kd.S_reads' HO468.out).2.1);(case side7=>refine (Kd.R_reads' (e:=94) (base:=w.heap.size) (ok:=fun k_=>True) (n:=t469.length) (c:=co16) ?_).2.2;exact (by (with_reducible repeat (first|apply Kd.R_alloc|apply Kd.R_drewN|apply Kd.R_drew));exact (Kd.R_mono (Kd.R_far (p:=⟨gb472,3,none⟩) (Kd.R_far (p:=⟨gb472,2,none⟩) (Kd.R_far (p:=⟨gb472,1,none⟩) (Kd.R_far (p:=⟨gb472,0,none⟩) (Kd.R_types HO471.out BK472.out (by decide)) (fun _ hk=>hk.2) (.slice Ao11 t460.length co11)) (fun _ hk=>hk.2) (.slice Ao14 t463.length co14)) (fun _ hk=>hk.2) (.slice Ao15 t466.length co15)) (fun _ hk=>hk.2) (.slice Ao16 t469.length co16)) (fun _ h_=>h_.1))));(case side8=>exact (Kd.R_reads' HO471.out).2.1);(case side9=>first|exact LaidG.below HLd.out (by repeat (first|(with_reducible first|exact HB.out|apply zD|apply zC|apply zE|refine zF ?_ GE459.out|refine zF ?_ GE472.out)|exact HB.out))|(refine LaidG.below HLd.out ?_;repeat (with_reducible first|exact HB.out|exact Below.refl _ _|apply zD|apply zC|apply zE);done));rintro e w17 ⟨rfl,hb⟩;refine ⟨_,rfl,?_⟩;have n0_:=zA (Kd.R_below (by (with_reducible repeat (first|apply Kd.R_alloc|apply Kd.R_drewN|apply Kd.R_drew));exact (Kd.R_mono (Kd.R_far (p:=⟨gb472,3,none⟩) (Kd.R_far (p:=⟨gb472,2,none⟩) (Kd.R_far (p:=⟨gb472,1,none⟩) (Kd.R_far (p:=⟨gb472,0,none⟩) (Kd.R_types HO462.out BK472.out (by decide)) (fun _ hk=>hk.2) (.slice Ao11 t460.length co11)) (fun _ hk=>hk.2) (.slice Ao14 t463.length co14)) (fun _ hk=>hk.2) (.slice Ao15 t466.length co15)) (fun _ hk=>hk.2) (.slice Ao16 t469.length co16)) (fun _ h_=>h_.1))) hb);have n1_:=zA (Kd.R_below (by (with_reducible repeat (first|apply Kd.R_alloc|apply Kd.R_drewN|apply Kd.R_drew));exact (Kd.R_mono (Kd.R_far (p:=⟨gb472,3,none⟩) (Kd.R_far (p:=⟨gb472,2,none⟩) (Kd.R_far (p:=⟨gb472,1,none⟩) (Kd.R_far (p:=⟨gb472,0,none⟩) (Kd.R_types HO465.out BK472.out (by decide)) (fun _ hk=>hk.2) (.slice Ao11 t460.length co11)) (fun _ hk=>hk.2) (.slice Ao14 t463.length co14)) (fun _ hk=>hk.2) (.slice Ao15 t466.length co15)) (fun _ hk=>hk.2) (.slice Ao16 t469.length co16)) (fun _ h_=>h_.1))) hb);have n2_:=zA (Kd.S_below (by (with_reducible repeat (first|apply Kd.S_alloc|apply Kd.S_drewN|apply Kd.S_drew));exact (Kd.S_mono (Kd.S_far (p:=⟨gb472,3,none⟩) (Kd.S_far (p:=⟨gb472,2,none⟩) (Kd.S_far (p:=⟨gb472,1,none⟩) (Kd.S_far (p:=⟨gb472,0,none⟩) (Kd.S_types HO468.out BK472.out (by decide)) (fun _ hk=>hk.2) (.slice Ao11 t460.length co11)) (fun _ hk=>hk.2) (.slice Ao14 t463.length co14)) (fun _ hk=>hk.2) (.slice Ao15 t466.length co15)) (fun _ hk=>hk.2) (.slice Ao16 t469.length co16)) (fun _ h_=>h_.1))) hb);have n3_:=zA (Kd.R_below (by (with_reducible repeat (first|apply Kd.R_alloc|apply Kd.R_drewN|apply Kd.R_drew));exact (Kd.R_mono (Kd.R_far (p:=⟨gb472,3,none⟩) (Kd.R_far (p:=⟨gb472,2,none⟩) (Kd.R_far (p:=⟨gb472,1,none⟩) (Kd.R_far (p:=⟨gb472,0,none⟩) (Kd.R_types HO471.out BK472.out (by decide)) (fun _ hk=>hk.2) (.slice Ao11 t460.length co11)) (fun _ hk=>hk.2) (.slice Ao14 t463.length co14)) (fun _ hk=>hk.2) (.slice Ao15 t466.length co15)) (fun _ hk=>hk.2) (.slice Ao16 t469.length co16)) (fun _ h_=>h_.1))) hb);have n4_:=zA (zN (g:=gb459) (o:=.cells #[.slice A0_0 l0_0.length c0_0,.slice A0_1 l0_1.length c0_1,.slice A0_2 l0_2.length c0_2,.slice A0_3 l0_3.length c0_3] 47 (0,0)) (by (with_reducible repeat (first|refine zL ?_ _|refine zM ?_|refine zK ?_ _));refine blk_far ?_ NB459_472.out _;(with_reducible repeat (first|refine zL ?_ _|refine zM ?_|refine zK ?_ _));refine blk_far ?_ NB459_472.out _;(with_reducible repeat (first|refine zL ?_ _|refine zM ?_|refine zK ?_ _));refine blk_far ?_ NB459_472.out _;(with_reducible repeat (first|refine zL ?_ _|refine zM ?_|refine zK ?_ _));refine blk_far ?_ NB459_472.out _;(with_reducible repeat (first|refine zL ?_ _|refine zM ?_|refine zK ?_ _));exact BK459.out) hb);have n5_:=zA (zN (g:=gb472) (o:=.cells #[.slice Ao11 t460.length co11,.slice Ao14 t463.length co14,.slice Ao15 t466.length co15,.slice Ao16 t469.length co16] 47 (0,0)) (by (with_reducible repeat (first|refine zL ?_ _|refine zM ?_|refine zK ?_ _));refine zO (cs:=#[.slice Ao11 t460.length co11,.slice Ao14 t463.length co14,.slice Ao15 t466.length co15,.slice none 0 0]) ?_ 3 _ rfl;(with_reducible repeat (first|refine zL ?_ _|refine zM ?_|refine zK ?_ _));refine zO (cs:=#[.slice Ao11 t460.length co11,.slice Ao14 t463.length co14,.slice none 0 0,.slice none 0 0]) ?_ 2 _ rfl;(with_reducible repeat (first|refine zL ?_ _|refine zM ?_|refine zK ?_ _));refine zO (cs:=#[.slice Ao11 t460.length co11,.slice none 0 0,.slice none 0 0,.slice none 0 0]) ?_ 1 _ rfl;(with_reducible repeat (first|refine zL ?_ _|refine zM ?_|refine zK ?_ _));refine zO (cs:=#[.slice none 0 0,.slice none 0 0,.slice none 0 0,.slice none 0 0]) ?_ 0 _ rfl;(with_reducible repeat (first|refine zL ?_ _|refine zM ?_|refine zK ?_ _));exact BK472.out) hb);have n6_:=zA (zH (by repeat (first|(with_reducible first|exact HB.out|apply zD|apply zC|apply zE|refine zF ?_ GE459.out|refine zF ?_ GE472.out)|exact HB.out)) hb);clear HO462;clear HO465;clear HO468;clear HO471;clear BK459;clear BK472;clear HB;have HO462:=n0_;have HO465:=n1_;have HO468:=n2_;have HO471:=n3_;have BK459:=n4_;have BK472:=n5_;have HB:=n6_;clear n0_ n1_ n2_ n3_ n4_ n5_ n6_;(try clear hb);(try clear hb2);(try clear hk);(try clear hi);have hcz18_0:w17.cell? ⟨gb459,0,none⟩ = some (.slice A0_0 l0_0.length c0_0):=(zI BK459.out 0).trans rfl;have hcz18_1:w17.cell? ⟨gb459,1,none⟩ = some (.slice A0_1 l0_1.length c0_1):=(zI BK459.out 1).trans rfl;have hcz18_2:w17.cell? ⟨gb459,2,none⟩ = some (.slice A0_2 l0_2.length c0_2):=(zI BK459.out 2).trans rfl;have hcz18_3:w17.cell? ⟨gb459,3,none⟩ = some (.slice A0_3 l0_3.length c0_3):=(zI BK459.out 3).trans rfl;have hfz18_0:=zJ BK459.out 0;have hfz18_1:=zJ BK459.out 1;have hfz18_2:=zJ BK459.out 2;have hfz18_3:=zJ BK459.out 3)|((with_reducible refine zU (f:=34) rfl ?_);refine goesL_ (some 11) rfl rfl Tryd.func34 (by kernel_rfl) rfl #[.agg #[.slice A0_0 l0_0.length c0_0,.slice A0_1 l0_1.length c0_1,.slice A0_2 l0_2.length c0_2,.slice A0_3 l0_3.length c0_3]] rfl (by (try simp only [zx,zy,zz]);first|done|rfl|(simp only [zd,zt];rfl)) ?_;(with_reducible refine (foretellref_TaskFault.calls k _ _ l0_0 _ _ l0_1 _ _ l0_2 _ _ l0_3 t474 _ ?side1 ?side2 ?side3 ?side4 ?side5 ?side6 ?side7 ?side8 A4.out).mono ?_);(case side1=>repeat (first|exact (zT HR0_0.out HB.out)|(with_reducible refine Kd.C_alloc ?_ _)|(with_reducible refine Kd.C_drewN ?_ _)|(with_reducible refine Kd.C_drew ?_)));(case side2=>exact HC0_0.out);(case side3=>repeat (first|exact (zT HR0_1.out HB.out)|(with_reducible refine Kd.C_alloc ?_ _)|(with_reducible refine Kd.C_drewN ?_ _)|(with_reducible refine Kd.C_drew ?_)));(case side4=>exact HC0_1.out);(case side5=>repeat (first|exact (zT HR0_2.out HB.out)|(with_reducible refine Kd.C_alloc ?_ _)|(with_reducible refine Kd.C_drewN ?_ _)|(with_reducible refine Kd.C_drew ?_)));(case side6=>exact HC0_2.out);(case side7=>repeat (first|exact (zT HR0_3.out HB.out)|(with_reducible refine Kd.C_alloc ?_ _)|(with_reducible refine Kd.C_drewN ?_ _)|(with_reducible refine Kd.C_drew ?_)));(case side8=>exact HC0_3.out);rintro e w19 ⟨rfl,hb⟩;refine ⟨_,rfl,?_⟩;have n0_:=zA (Kd.R_below (by (with_reducible repeat (first|apply Kd.R_alloc|apply Kd.R_drewN|apply Kd.R_drew));exact HO462.out) hb);have n1_:=zA (Kd.R_below (by (with_reducible repeat (first|apply Kd.R_alloc|apply Kd.R_drewN|apply Kd.R_drew));exact HO465.out) hb);have n2_:=zA (Kd.S_below (by (with_reducible repeat (first|apply Kd.S_alloc|apply Kd.S_drewN|apply Kd.S_drew));exact HO468.out) hb);have n3_:=zA (Kd.R_below (by (with_reducible repeat (first|apply Kd.R_alloc|apply Kd.R_drewN|apply Kd.R_drew));exact HO471.out) hb);have n4_:=zA (zN (g:=gb459) (o:=.cells #[.slice A0_0 l0_0.length c0_0,.slice A0_1 l0_1.length c0_1,.slice A0_2 l0_2.length c0_2,.slice A0_3 l0_3.length c0_3] 47 (0,0)) (by (with_reducible repeat (first|refine zL ?_ _|refine zM ?_|refine zK ?_ _));exact BK459.out) hb);have n5_:=zA (zN (g:=gb472) (o:=.cells #[.slice Ao11 t460.length co11,.slice Ao14 t463.length co14,.slice Ao15 t466.length co15,.slice Ao16 t469.length co16] 47 (0,0)) (by (with_reducible repeat (first|refine zL ?_ _|refine zM ?_|refine zK ?_ _));exact BK472.out) hb);have n6_:=zA (zH (by repeat (first|(with_reducible first|exact HB.out|apply zD|apply zC|apply zE|refine zF ?_ GE459.out|refine zF ?_ GE472.out)|exact HB.out)) hb);clear HO462;clear HO465;clear HO468;clear HO471;clear BK459;clear BK472;clear HB;have HO462:=n0_;have HO465:=n1_;have HO468:=n2_;have HO471:=n3_;have BK459:=n4_;have BK472:=n5_;have HB:=n6_;clear n0_ n1_ n2_ n3_ n4_ n5_ n6_;(try clear hb);(try clear hb2);(try clear hk);(try clear hi);have hcz20_0:w19.cell? ⟨gb472,0,none⟩ = some (.slice Ao11 t460.length co11):=(zI BK472.out 0).trans rfl;have hcz20_1:w19.cell? ⟨gb472,1,none⟩ = some (.slice Ao14 t463.length co14):=(zI BK472.out 1).trans rfl;have hcz20_2:w19.cell? ⟨gb472,2,none⟩ = some (.slice Ao15 t466.length co15):=(zI BK472.out 2).trans rfl;have hcz20_3:w19.cell? ⟨gb472,3,none⟩ = some (.slice Ao16 t469.length co16):=(zI BK472.out 3).trans rfl;have hfz20_0:=zJ BK472.out 0;have hfz20_1:=zJ BK472.out 1;have hfz20_2:=zJ BK472.out 2;have hfz20_3:=zJ BK472.out 3;have hcz21_0:w19.cell? ⟨gb459,0,none⟩ = some (.slice A0_0 l0_0.length c0_0):=(zI BK459.out 0).trans rfl;have hcz21_1:w19.cell? ⟨gb459,1,none⟩ = some (.slice A0_1 l0_1.length c0_1):=(zI BK459.out 1).trans rfl;have hcz21_2:w19.cell? ⟨gb459,2,none⟩ = some (.slice A0_2 l0_2.length c0_2):=(zI BK459.out 2).trans rfl;have hcz21_3:w19.cell? ⟨gb459,3,none⟩ = some (.slice A0_3 l0_3.length c0_3):=(zI BK459.out 3).trans rfl;have hfz21_0:=zJ BK459.out 0;have hfz21_1:=zJ BK459.out 1;have hfz21_2:=zJ BK459.out 2;have hfz21_3:=zJ BK459.out 3)|(go_at_call 35;(with_reducible refine (foretelllaw_sameTask.calls k _ _ t460 _ _ t463 _ _ t466 _ _ t469 _ _ l0_0 _ _ l0_1 _ _ l0_2 _ _ l0_3 t475 _ ?side1 ?side2 ?side3 ?side4 ?side5 ?side6 ?side7 ?side8 ?side9 ?side10 ?side11 ?side12 ?side13 ?side14 ?side15 ?side16 A6.out).mono ?_);(case side1=>repeat (first|exact (Kd.R_reads' HO462.out).2.2|(with_reducible refine Kd.C_alloc ?_ _)|(with_reducible refine Kd.C_drewN ?_ _)|(with_reducible refine Kd.C_drew ?_)));(case side2=>exact (Kd.R_reads' HO462.out).2.1);(case side3=>repeat (first|exact (Kd.R_reads' HO465.out).2.2|(with_reducible refine Kd.C_alloc ?_ _)|(with_reducible refine Kd.C_drewN ?_ _)|(with_reducible refine Kd.C_drew ?_)));(case side4=>exact (Kd.R_reads' HO465.out).2.1);(case side5=>repeat (first|exact (Kd.S_reads' HO468.out).2.2|(with_reducible refine Kd.C_alloc ?_ _)|(with_reducible refine Kd.C_drewN ?_ _)|(with_reducible refine Kd.C_drew ?_)));(case side6=>exact (Kd.S_reads' HO468.out).2.1);(case side7=>repeat (first|exact (Kd.R_reads' HO471.out).2.2|(with_reducible refine Kd.C_alloc ?_ _)|(with_reducible refine Kd.C_drewN ?_ _)|(with_reducible refine Kd.C_drew ?_)));(case side8=>exact (Kd.R_reads' HO471.out).2.1);(case side9=>repeat (first|exact (zT HR0_0.out HB.out)|(with_reducible refine Kd.C_alloc ?_ _)|(with_reducible refine Kd.C_drewN ?_ _)|(with_reducible refine Kd.C_drew ?_)));(case side10=>exact HC0_0.out);(case side11=>repeat (first|exact (zT HR0_1.out HB.out)|(with_reducible refine Kd.C_alloc ?_ _)|(with_reducible refine Kd.C_drewN ?_ _)|(with_reducible refine Kd.C_drew ?_)));(case side12=>exact HC0_1.out);(case side13=>repeat (first|exact (zT HR0_2.out HB.out)|(with_reducible refine Kd.C_alloc ?_ _)|(with_reducible refine Kd.C_drewN ?_ _)|(with_reducible refine Kd.C_drew ?_)));(case side14=>exact HC0_2.out);(case side15=>repeat (first|exact (zT HR0_3.out HB.out)|(with_reducible refine Kd.C_alloc ?_ _)|(with_reducible refine Kd.C_drewN ?_ _)|(with_reducible refine Kd.C_drew ?_)));(case side16=>exact HC0_3.out);rintro e w22 ⟨rfl,hb⟩;have n0_:=zA (Kd.R_below (by (with_reducible repeat (first|apply Kd.R_alloc|apply Kd.R_drewN|apply Kd.R_drew));exact HO462.out) hb);have n1_:=zA (Kd.R_below (by (with_reducible repeat (first|apply Kd.R_alloc|apply Kd.R_drewN|apply Kd.R_drew));exact HO465.out) hb);have n2_:=zA (Kd.S_below (by (with_reducible repeat (first|apply Kd.S_alloc|apply Kd.S_drewN|apply Kd.S_drew));exact HO468.out) hb);have n3_:=zA (Kd.R_below (by (with_reducible repeat (first|apply Kd.R_alloc|apply Kd.R_drewN|apply Kd.R_drew));exact HO471.out) hb);have n4_:=zA (zN (g:=gb459) (o:=.cells #[.slice A0_0 l0_0.length c0_0,.slice A0_1 l0_1.length c0_1,.slice A0_2 l0_2.length c0_2,.slice A0_3 l0_3.length c0_3] 47 (0,0)) (by (with_reducible repeat (first|refine zL ?_ _|refine zM ?_|refine zK ?_ _));exact BK459.out) hb);have n5_:=zA (zN (g:=gb472) (o:=.cells #[.slice Ao11 t460.length co11,.slice Ao14 t463.length co14,.slice Ao15 t466.length co15,.slice Ao16 t469.length co16] 47 (0,0)) (by (with_reducible repeat (first|refine zL ?_ _|refine zM ?_|refine zK ?_ _));exact BK472.out) hb);have n6_:=zA (zH (by repeat (first|(with_reducible first|exact HB.out|apply zD|apply zC|apply zE|refine zF ?_ GE459.out|refine zF ?_ GE472.out)|exact HB.out)) hb);clear HO462;clear HO465;clear HO468;clear HO471;clear BK459;clear BK472;clear HB;have HO462:=n0_;have HO465:=n1_;have HO468:=n2_;have HO471:=n3_;have BK459:=n4_;have BK472:=n5_;have HB:=n6_;clear n0_ n1_ n2_ n3_ n4_ n5_ n6_;(try clear hb);(try clear hb2);(try clear hk);(try clear hi)))
  go_ret
  exact ⟨by first|rfl|(simp [errW_none,errW_some] <;> rfl)|(simp [*,errW_none,errW_some] <;> rfl),by repeat (first|(with_reducible first|exact HB.out|apply zD|apply zC|apply zE|refine zF ?_ GE459.out|refine zF ?_ GE472.out)|exact HB.out)⟩
 ·rw [if_neg c5] at H
  have c5b0:(t473 == t474) = false:=beq_eq_false_iff_ne.mpr c5
  have c5b1:(t473 != t474) = true:=bne_iff_ne.mpr c5
  obtain rfl:=Option.some.inj H
  go_enter Tryd.func9,Tryd.ntmps9
  go_wp2_with (first|((with_reducible refine zV (N:=1) rfl ?_);refine zW ?hg (N:=1) ?hd (cs:=#[.slice A0_0 l0_0.length c0_0,.slice A0_1 l0_1.length c0_1,.slice A0_2 l0_2.length c0_2,.slice A0_3 l0_3.length c0_3]) (t:=47) ?hr ?_;(case hd=>rfl);(case hg=>rfl);(case hr=>first|(go_simp;done)|(go_simp;rfl));intro gb459 hg w23 hbox hb;have n0_:=zA (zH (by repeat (first|(with_reducible first|exact HB.out|apply zD|apply zC|apply zE)|exact HB.out)) hb);have n1_:=zA (hbox);have n2_:=zA ((by rw [hg];exact (zG (by repeat (first|(with_reducible first|exact HB.out|apply zD|apply zC|apply zE)|exact HB.out))):w.heap.size ≤ gb459));have n3_:=zA ((by rw [hg];exact (zG (by repeat (first|(with_reducible first|exact HB.out|apply zD|apply zC|apply zE)|exact HB.out))):w.heap.size ≤ gb459));clear HB;have HB:=n0_;have BK459:=n1_;have GW459:=n2_;have GE459:=n3_;clear n0_ n1_ n2_ n3_;clear hb hbox hg;have hcz24_0:w23.cell? ⟨gb459,0,none⟩ = some (.slice A0_0 l0_0.length c0_0):=(zI BK459.out 0).trans rfl;have hcz24_1:w23.cell? ⟨gb459,1,none⟩ = some (.slice A0_1 l0_1.length c0_1):=(zI BK459.out 1).trans rfl;have hcz24_2:w23.cell? ⟨gb459,2,none⟩ = some (.slice A0_2 l0_2.length c0_2):=(zI BK459.out 2).trans rfl;have hcz24_3:w23.cell? ⟨gb459,3,none⟩ = some (.slice A0_3 l0_3.length c0_3):=(zI BK459.out 3).trans rfl;have hfz24_0:=zJ BK459.out 0;have hfz24_1:=zJ BK459.out 1;have hfz24_2:=zJ BK459.out 2;have hfz24_3:=zJ BK459.out 3)|((with_reducible refine zU (f:=32) rfl ?_);refine goesL_ (some 7) rfl rfl Tryd.func32 (by kernel_rfl) rfl #[.agg #[.slice A0_0 l0_0.length c0_0,.slice A0_1 l0_1.length c0_1,.slice A0_2 l0_2.length c0_2,.slice A0_3 l0_3.length c0_3]] rfl (by (try simp only [zx,zy,zz]);first|done|rfl|(simp only [zd,zt];rfl)) ?_;(with_reducible refine (foretelllaw_tasks.calls k _ _ l0_0 _ _ l0_1 _ _ l0_2 _ _ l0_3 t460 t463 t466 t469 _ ?side1 ?side2 ?side3 ?side4 ?side5 ?side6 ?side7 ?side8 A2.out).mono ?_);(case side1=>repeat (first|exact (zT HR0_0.out HB.out)|(with_reducible refine Kd.C_alloc ?_ _)|(with_reducible refine Kd.C_drewN ?_ _)|(with_reducible refine Kd.C_drew ?_)));(case side2=>exact HC0_0.out);(case side3=>repeat (first|exact (zT HR0_1.out HB.out)|(with_reducible refine Kd.C_alloc ?_ _)|(with_reducible refine Kd.C_drewN ?_ _)|(with_reducible refine Kd.C_drew ?_)));(case side4=>exact HC0_1.out);(case side5=>repeat (first|exact (zT HR0_2.out HB.out)|(with_reducible refine Kd.C_alloc ?_ _)|(with_reducible refine Kd.C_drewN ?_ _)|(with_reducible refine Kd.C_drew ?_)));(case side6=>exact HC0_2.out);(case side7=>repeat (first|exact (zT HR0_3.out HB.out)|(with_reducible refine Kd.C_alloc ?_ _)|(with_reducible refine Kd.C_drewN ?_ _)|(with_reducible refine Kd.C_drew ?_)));(case side8=>exact HC0_3.out);rintro e w25 ⟨v461,v464,v467,v470,rfl,ho0,ho1,ho2,ho3,hb⟩;refine ⟨_,rfl,?_⟩;have n0_:=zA (Kd.R_lower ho0 (zG (by repeat (first|(with_reducible first|exact HB.out|apply zD|apply zC|apply zE|refine zF ?_ GE459.out)|exact HB.out))));have n1_:=zA (Kd.R_lower ho1 (zG (by repeat (first|(with_reducible first|exact HB.out|apply zD|apply zC|apply zE|refine zF ?_ GE459.out)|exact HB.out))));have n2_:=zA (Kd.S_lower ho2 (zG (by repeat (first|(with_reducible first|exact HB.out|apply zD|apply zC|apply zE|refine zF ?_ GE459.out)|exact HB.out))));have n3_:=zA (Kd.R_lower ho3 (zG (by repeat (first|(with_reducible first|exact HB.out|apply zD|apply zC|apply zE|refine zF ?_ GE459.out)|exact HB.out))));have n4_:=zA (zN (g:=gb459) (o:=.cells #[.slice A0_0 l0_0.length c0_0,.slice A0_1 l0_1.length c0_1,.slice A0_2 l0_2.length c0_2,.slice A0_3 l0_3.length c0_3] 47 (0,0)) (by (with_reducible repeat (first|refine zL ?_ _|refine zM ?_|refine zK ?_ _));exact BK459.out) hb);have n5_:=zA (zH (by repeat (first|(with_reducible first|exact HB.out|apply zD|apply zC|apply zE|refine zF ?_ GE459.out)|exact HB.out)) hb);clear BK459;clear HB;have HO462:=n0_;have HO465:=n1_;have HO468:=n2_;have HO471:=n3_;have BK459:=n4_;have HB:=n5_;clear n0_ n1_ n2_ n3_ n4_ n5_;(try clear hb);(try clear hb2);(try clear hk);(try clear hi);(try clear ho0);(try clear ho1);(try clear ho2);(try clear ho3))|((with_reducible refine zV (N:=3) rfl ?_);refine zW ?hg (N:=3) ?hd (cs:=#[.slice none 0 0,.slice none 0 0,.slice none 0 0,.slice none 0 0]) (t:=47) ?hr ?_;(case hd=>rfl);(case hg=>rfl);(case hr=>first|(go_simp;done)|(go_simp;rfl));intro gb472 hg w26 hbox hb;have n0_:=zA (Kd.R_below (by (with_reducible repeat (first|apply Kd.R_alloc|apply Kd.R_drewN|apply Kd.R_drew));exact HO462.out) hb);have n1_:=zA (Kd.R_below (by (with_reducible repeat (first|apply Kd.R_alloc|apply Kd.R_drewN|apply Kd.R_drew));exact HO465.out) hb);have n2_:=zA (Kd.S_below (by (with_reducible repeat (first|apply Kd.S_alloc|apply Kd.S_drewN|apply Kd.S_drew));exact HO468.out) hb);have n3_:=zA (Kd.R_below (by (with_reducible repeat (first|apply Kd.R_alloc|apply Kd.R_drewN|apply Kd.R_drew));exact HO471.out) hb);have n4_:=zA (zN (g:=gb459) (o:=.cells #[.slice A0_0 l0_0.length c0_0,.slice A0_1 l0_1.length c0_1,.slice A0_2 l0_2.length c0_2,.slice A0_3 l0_3.length c0_3] 47 (0,0)) (by (with_reducible repeat (first|refine zL ?_ _|refine zM ?_|refine zK ?_ _));exact BK459.out) hb);have n5_:=zA (zH (by repeat (first|(with_reducible first|exact HB.out|apply zD|apply zC|apply zE|refine zF ?_ GE459.out)|exact HB.out)) hb);have n6_:=zA (hbox);have n7_:=zA ((by rw [hg];exact (zG (by repeat (first|(with_reducible first|exact HB.out|apply zD|apply zC|apply zE|refine zF ?_ GE459.out)|exact HB.out))):w.heap.size ≤ gb472));have n8_:=zA ((by rw [hg];exact (zG (by repeat (first|(with_reducible first|exact HB.out|apply zD|apply zC|apply zE|refine zF ?_ GE459.out)|exact HB.out))):w.heap.size ≤ gb472));have n9_:=zA ((by rw [hg];exact Nat.ne_of_lt (blk_lt (g:=gb459) (o:=.cells #[.slice A0_0 l0_0.length c0_0,.slice A0_1 l0_1.length c0_1,.slice A0_2 l0_2.length c0_2,.slice A0_3 l0_3.length c0_3] 47 (0,0)) (by (with_reducible repeat (first|refine zL ?_ _|refine zM ?_|refine zK ?_ _));exact BK459.out)):gb459 ≠ gb472));have n10_:=zA ((by rw [hg];exact Nat.ne_of_gt (blk_lt (g:=gb459) (o:=.cells #[.slice A0_0 l0_0.length c0_0,.slice A0_1 l0_1.length c0_1,.slice A0_2 l0_2.length c0_2,.slice A0_3 l0_3.length c0_3] 47 (0,0)) (by (with_reducible repeat (first|refine zL ?_ _|refine zM ?_|refine zK ?_ _));exact BK459.out)):gb472 ≠ gb459));clear HO462;clear HO465;clear HO468;clear HO471;clear BK459;clear HB;have HO462:=n0_;have HO465:=n1_;have HO468:=n2_;have HO471:=n3_;have BK459:=n4_;have HB:=n5_;have BK472:=n6_;have GW472:=n7_;have GE472:=n8_;have NB459_472:=n9_;have NB472_459:=n10_;clear n0_ n1_ n2_ n3_ n4_ n5_ n6_ n7_ n8_ n9_ n10_;clear hb hbox hg;obtain ⟨Ao27,co27,eo27⟩:=Kd.R_slice HO462.out;subst eo27;have hnb28:=NB472_459.out;have hnc28:=NB459_472.out;have hcz29_0:w26.cell? ⟨gb472,0,none⟩ = some (.slice none 0 0):=(zI BK472.out 0).trans rfl;have hcz29_1:w26.cell? ⟨gb472,1,none⟩ = some (.slice none 0 0):=(zI BK472.out 1).trans rfl;have hcz29_2:w26.cell? ⟨gb472,2,none⟩ = some (.slice none 0 0):=(zI BK472.out 2).trans rfl;have hcz29_3:w26.cell? ⟨gb472,3,none⟩ = some (.slice none 0 0):=(zI BK472.out 3).trans rfl;have hfz29_0:=zJ BK472.out 0;have hfz29_1:=zJ BK472.out 1;have hfz29_2:=zJ BK472.out 2;have hfz29_3:=zJ BK472.out 3;obtain ⟨Ao30,co30,eo30⟩:=Kd.R_slice HO465.out;subst eo30;obtain ⟨Ao31,co31,eo31⟩:=Kd.S_slice HO468.out;subst eo31;obtain ⟨Ao32,co32,eo32⟩:=Kd.R_slice HO471.out;subst eo32)|((with_reducible refine zU (f:=33) rfl ?_);refine goesL_ (some 9) rfl rfl Tryd.func33 (by kernel_rfl) rfl #[.agg #[.slice Ao27 t460.length co27,.slice Ao30 t463.length co30,.slice Ao31 t466.length co31,.slice Ao32 t469.length co32]] rfl (by (try simp only [zx,zy,zz]);first|done|rfl|(simp only [zd,zt];rfl)) ?_;(with_reducible refine (product_Check.calls k _ _ t460 _ _ t463 _ _ t466 _ _ t469 t473 _ ?side1 ?side2 ?side3 ?side4 ?side5 ?side6 ?side7 ?side8 ?side9 A3.out).mono ?_);(case side1=>refine (Kd.R_reads' (e:=74) (base:=w.heap.size) (ok:=fun k_=>True) (n:=t460.length) (c:=co27) ?_).2.2;exact (by (with_reducible repeat (first|apply Kd.R_alloc|apply Kd.R_drewN|apply Kd.R_drew));exact (Kd.R_mono (Kd.R_far (p:=⟨gb472,3,none⟩) (Kd.R_far (p:=⟨gb472,2,none⟩) (Kd.R_far (p:=⟨gb472,1,none⟩) (Kd.R_far (p:=⟨gb472,0,none⟩) (Kd.R_types HO462.out BK472.out (by decide)) (fun _ hk=>hk.2) (.slice Ao27 t460.length co27)) (fun _ hk=>hk.2) (.slice Ao30 t463.length co30)) (fun _ hk=>hk.2) (.slice Ao31 t466.length co31)) (fun _ hk=>hk.2) (.slice Ao32 t469.length co32)) (fun _ h_=>h_.1))));(case side2=>exact (Kd.R_reads' HO462.out).2.1);(case side3=>refine (Kd.R_reads' (e:=68) (base:=w.heap.size) (ok:=fun k_=>some k_ ≠ (.slice Ao32 t469.length co32:Value).ownBlock) (n:=t463.length) (c:=co30) ?_).2.2;exact (by (with_reducible repeat (first|apply Kd.R_alloc|apply Kd.R_drewN|apply Kd.R_drew));exact (Kd.R_mono (Kd.R_far (p:=⟨gb472,3,none⟩) (Kd.R_far (p:=⟨gb472,2,none⟩) (Kd.R_far (p:=⟨gb472,1,none⟩) (Kd.R_far (p:=⟨gb472,0,none⟩) (Kd.R_types HO465.out BK472.out (by decide)) (fun _ hk=>hk.2) (.slice Ao27 t460.length co27)) (fun _ hk=>hk.2) (.slice Ao30 t463.length co30)) (fun _ hk=>hk.2) (.slice Ao31 t466.length co31)) (fun _ hk=>hk.2) (.slice Ao32 t469.length co32)) (fun _ h_=>h_.1))));(case side4=>exact (Kd.R_reads' HO465.out).2.1);(case side5=>refine (Kd.S_reads' (e:=45) (base:=w.heap.size) (ok:=fun k_=>some k_ ≠ (.slice Ao32 t469.length co32:Value).ownBlock) (n:=t466.length) (c:=co31) ?_).2.2;exact (by (with_reducible repeat (first|apply Kd.S_alloc|apply Kd.S_drewN|apply Kd.S_drew));exact (Kd.S_mono (Kd.S_far (p:=⟨gb472,3,none⟩) (Kd.S_far (p:=⟨gb472,2,none⟩) (Kd.S_far (p:=⟨gb472,1,none⟩) (Kd.S_far (p:=⟨gb472,0,none⟩) (Kd.S_types HO468.out BK472.out (by decide)) (fun _ hk=>hk.2) (.slice Ao27 t460.length co27)) (fun _ hk=>hk.2) (.slice Ao30 t463.length co30)) (fun _ hk=>hk.2) (.slice Ao31 t466.length co31)) (fun _ hk=>hk.2) (.slice Ao32 t469.length co32)) (fun _ h_=>h_.1))));(case side6=>exact (Kd.S_reads' HO468.out).2.1);(case side7=>refine (Kd.R_reads' (e:=94) (base:=w.heap.size) (ok:=fun k_=>True) (n:=t469.length) (c:=co32) ?_).2.2;exact (by (with_reducible repeat (first|apply Kd.R_alloc|apply Kd.R_drewN|apply Kd.R_drew));exact (Kd.R_mono (Kd.R_far (p:=⟨gb472,3,none⟩) (Kd.R_far (p:=⟨gb472,2,none⟩) (Kd.R_far (p:=⟨gb472,1,none⟩) (Kd.R_far (p:=⟨gb472,0,none⟩) (Kd.R_types HO471.out BK472.out (by decide)) (fun _ hk=>hk.2) (.slice Ao27 t460.length co27)) (fun _ hk=>hk.2) (.slice Ao30 t463.length co30)) (fun _ hk=>hk.2) (.slice Ao31 t466.length co31)) (fun _ hk=>hk.2) (.slice Ao32 t469.length co32)) (fun _ h_=>h_.1))));(case side8=>exact (Kd.R_reads' HO471.out).2.1);(case side9=>first|exact LaidG.below HLd.out (by repeat (first|(with_reducible first|exact HB.out|apply zD|apply zC|apply zE|refine zF ?_ GE459.out|refine zF ?_ GE472.out)|exact HB.out))|(refine LaidG.below HLd.out ?_;repeat (with_reducible first|exact HB.out|exact Below.refl _ _|apply zD|apply zC|apply zE);done));rintro e w33 ⟨rfl,hb⟩;refine ⟨_,rfl,?_⟩;have n0_:=zA (Kd.R_below (by (with_reducible repeat (first|apply Kd.R_alloc|apply Kd.R_drewN|apply Kd.R_drew));exact (Kd.R_mono (Kd.R_far (p:=⟨gb472,3,none⟩) (Kd.R_far (p:=⟨gb472,2,none⟩) (Kd.R_far (p:=⟨gb472,1,none⟩) (Kd.R_far (p:=⟨gb472,0,none⟩) (Kd.R_types HO462.out BK472.out (by decide)) (fun _ hk=>hk.2) (.slice Ao27 t460.length co27)) (fun _ hk=>hk.2) (.slice Ao30 t463.length co30)) (fun _ hk=>hk.2) (.slice Ao31 t466.length co31)) (fun _ hk=>hk.2) (.slice Ao32 t469.length co32)) (fun _ h_=>h_.1))) hb);have n1_:=zA (Kd.R_below (by (with_reducible repeat (first|apply Kd.R_alloc|apply Kd.R_drewN|apply Kd.R_drew));exact (Kd.R_mono (Kd.R_far (p:=⟨gb472,3,none⟩) (Kd.R_far (p:=⟨gb472,2,none⟩) (Kd.R_far (p:=⟨gb472,1,none⟩) (Kd.R_far (p:=⟨gb472,0,none⟩) (Kd.R_types HO465.out BK472.out (by decide)) (fun _ hk=>hk.2) (.slice Ao27 t460.length co27)) (fun _ hk=>hk.2) (.slice Ao30 t463.length co30)) (fun _ hk=>hk.2) (.slice Ao31 t466.length co31)) (fun _ hk=>hk.2) (.slice Ao32 t469.length co32)) (fun _ h_=>h_.1))) hb);have n2_:=zA (Kd.S_below (by (with_reducible repeat (first|apply Kd.S_alloc|apply Kd.S_drewN|apply Kd.S_drew));exact (Kd.S_mono (Kd.S_far (p:=⟨gb472,3,none⟩) (Kd.S_far (p:=⟨gb472,2,none⟩) (Kd.S_far (p:=⟨gb472,1,none⟩) (Kd.S_far (p:=⟨gb472,0,none⟩) (Kd.S_types HO468.out BK472.out (by decide)) (fun _ hk=>hk.2) (.slice Ao27 t460.length co27)) (fun _ hk=>hk.2) (.slice Ao30 t463.length co30)) (fun _ hk=>hk.2) (.slice Ao31 t466.length co31)) (fun _ hk=>hk.2) (.slice Ao32 t469.length co32)) (fun _ h_=>h_.1))) hb);have n3_:=zA (Kd.R_below (by (with_reducible repeat (first|apply Kd.R_alloc|apply Kd.R_drewN|apply Kd.R_drew));exact (Kd.R_mono (Kd.R_far (p:=⟨gb472,3,none⟩) (Kd.R_far (p:=⟨gb472,2,none⟩) (Kd.R_far (p:=⟨gb472,1,none⟩) (Kd.R_far (p:=⟨gb472,0,none⟩) (Kd.R_types HO471.out BK472.out (by decide)) (fun _ hk=>hk.2) (.slice Ao27 t460.length co27)) (fun _ hk=>hk.2) (.slice Ao30 t463.length co30)) (fun _ hk=>hk.2) (.slice Ao31 t466.length co31)) (fun _ hk=>hk.2) (.slice Ao32 t469.length co32)) (fun _ h_=>h_.1))) hb);have n4_:=zA (zN (g:=gb459) (o:=.cells #[.slice A0_0 l0_0.length c0_0,.slice A0_1 l0_1.length c0_1,.slice A0_2 l0_2.length c0_2,.slice A0_3 l0_3.length c0_3] 47 (0,0)) (by (with_reducible repeat (first|refine zL ?_ _|refine zM ?_|refine zK ?_ _));refine blk_far ?_ NB459_472.out _;(with_reducible repeat (first|refine zL ?_ _|refine zM ?_|refine zK ?_ _));refine blk_far ?_ NB459_472.out _;(with_reducible repeat (first|refine zL ?_ _|refine zM ?_|refine zK ?_ _));refine blk_far ?_ NB459_472.out _;(with_reducible repeat (first|refine zL ?_ _|refine zM ?_|refine zK ?_ _));refine blk_far ?_ NB459_472.out _;(with_reducible repeat (first|refine zL ?_ _|refine zM ?_|refine zK ?_ _));exact BK459.out) hb);have n5_:=zA (zN (g:=gb472) (o:=.cells #[.slice Ao27 t460.length co27,.slice Ao30 t463.length co30,.slice Ao31 t466.length co31,.slice Ao32 t469.length co32] 47 (0,0)) (by (with_reducible repeat (first|refine zL ?_ _|refine zM ?_|refine zK ?_ _));refine zO (cs:=#[.slice Ao27 t460.length co27,.slice Ao30 t463.length co30,.slice Ao31 t466.length co31,.slice none 0 0]) ?_ 3 _ rfl;(with_reducible repeat (first|refine zL ?_ _|refine zM ?_|refine zK ?_ _));refine zO (cs:=#[.slice Ao27 t460.length co27,.slice Ao30 t463.length co30,.slice none 0 0,.slice none 0 0]) ?_ 2 _ rfl;(with_reducible repeat (first|refine zL ?_ _|refine zM ?_|refine zK ?_ _));refine zO (cs:=#[.slice Ao27 t460.length co27,.slice none 0 0,.slice none 0 0,.slice none 0 0]) ?_ 1 _ rfl;(with_reducible repeat (first|refine zL ?_ _|refine zM ?_|refine zK ?_ _));refine zO (cs:=#[.slice none 0 0,.slice none 0 0,.slice none 0 0,.slice none 0 0]) ?_ 0 _ rfl;(with_reducible repeat (first|refine zL ?_ _|refine zM ?_|refine zK ?_ _));exact BK472.out) hb);have n6_:=zA (zH (by repeat (first|(with_reducible first|exact HB.out|apply zD|apply zC|apply zE|refine zF ?_ GE459.out|refine zF ?_ GE472.out)|exact HB.out)) hb);clear HO462;clear HO465;clear HO468;clear HO471;clear BK459;clear BK472;clear HB;have HO462:=n0_;have HO465:=n1_;have HO468:=n2_;have HO471:=n3_;have BK459:=n4_;have BK472:=n5_;have HB:=n6_;clear n0_ n1_ n2_ n3_ n4_ n5_ n6_;(try clear hb);(try clear hb2);(try clear hk);(try clear hi);have hcz34_0:w33.cell? ⟨gb459,0,none⟩ = some (.slice A0_0 l0_0.length c0_0):=(zI BK459.out 0).trans rfl;have hcz34_1:w33.cell? ⟨gb459,1,none⟩ = some (.slice A0_1 l0_1.length c0_1):=(zI BK459.out 1).trans rfl;have hcz34_2:w33.cell? ⟨gb459,2,none⟩ = some (.slice A0_2 l0_2.length c0_2):=(zI BK459.out 2).trans rfl;have hcz34_3:w33.cell? ⟨gb459,3,none⟩ = some (.slice A0_3 l0_3.length c0_3):=(zI BK459.out 3).trans rfl;have hfz34_0:=zJ BK459.out 0;have hfz34_1:=zJ BK459.out 1;have hfz34_2:=zJ BK459.out 2;have hfz34_3:=zJ BK459.out 3)|((with_reducible refine zU (f:=34) rfl ?_);refine goesL_ (some 11) rfl rfl Tryd.func34 (by kernel_rfl) rfl #[.agg #[.slice A0_0 l0_0.length c0_0,.slice A0_1 l0_1.length c0_1,.slice A0_2 l0_2.length c0_2,.slice A0_3 l0_3.length c0_3]] rfl (by (try simp only [zx,zy,zz]);first|done|rfl|(simp only [zd,zt];rfl)) ?_;(with_reducible refine (foretellref_TaskFault.calls k _ _ l0_0 _ _ l0_1 _ _ l0_2 _ _ l0_3 t474 _ ?side1 ?side2 ?side3 ?side4 ?side5 ?side6 ?side7 ?side8 A4.out).mono ?_);(case side1=>repeat (first|exact (zT HR0_0.out HB.out)|(with_reducible refine Kd.C_alloc ?_ _)|(with_reducible refine Kd.C_drewN ?_ _)|(with_reducible refine Kd.C_drew ?_)));(case side2=>exact HC0_0.out);(case side3=>repeat (first|exact (zT HR0_1.out HB.out)|(with_reducible refine Kd.C_alloc ?_ _)|(with_reducible refine Kd.C_drewN ?_ _)|(with_reducible refine Kd.C_drew ?_)));(case side4=>exact HC0_1.out);(case side5=>repeat (first|exact (zT HR0_2.out HB.out)|(with_reducible refine Kd.C_alloc ?_ _)|(with_reducible refine Kd.C_drewN ?_ _)|(with_reducible refine Kd.C_drew ?_)));(case side6=>exact HC0_2.out);(case side7=>repeat (first|exact (zT HR0_3.out HB.out)|(with_reducible refine Kd.C_alloc ?_ _)|(with_reducible refine Kd.C_drewN ?_ _)|(with_reducible refine Kd.C_drew ?_)));(case side8=>exact HC0_3.out);rintro e w35 ⟨rfl,hb⟩;refine ⟨_,rfl,?_⟩;have n0_:=zA (Kd.R_below (by (with_reducible repeat (first|apply Kd.R_alloc|apply Kd.R_drewN|apply Kd.R_drew));exact HO462.out) hb);have n1_:=zA (Kd.R_below (by (with_reducible repeat (first|apply Kd.R_alloc|apply Kd.R_drewN|apply Kd.R_drew));exact HO465.out) hb);have n2_:=zA (Kd.S_below (by (with_reducible repeat (first|apply Kd.S_alloc|apply Kd.S_drewN|apply Kd.S_drew));exact HO468.out) hb);have n3_:=zA (Kd.R_below (by (with_reducible repeat (first|apply Kd.R_alloc|apply Kd.R_drewN|apply Kd.R_drew));exact HO471.out) hb);have n4_:=zA (zN (g:=gb459) (o:=.cells #[.slice A0_0 l0_0.length c0_0,.slice A0_1 l0_1.length c0_1,.slice A0_2 l0_2.length c0_2,.slice A0_3 l0_3.length c0_3] 47 (0,0)) (by (with_reducible repeat (first|refine zL ?_ _|refine zM ?_|refine zK ?_ _));exact BK459.out) hb);have n5_:=zA (zN (g:=gb472) (o:=.cells #[.slice Ao27 t460.length co27,.slice Ao30 t463.length co30,.slice Ao31 t466.length co31,.slice Ao32 t469.length co32] 47 (0,0)) (by (with_reducible repeat (first|refine zL ?_ _|refine zM ?_|refine zK ?_ _));exact BK472.out) hb);have n6_:=zA (zH (by repeat (first|(with_reducible first|exact HB.out|apply zD|apply zC|apply zE|refine zF ?_ GE459.out|refine zF ?_ GE472.out)|exact HB.out)) hb);clear HO462;clear HO465;clear HO468;clear HO471;clear BK459;clear BK472;clear HB;have HO462:=n0_;have HO465:=n1_;have HO468:=n2_;have HO471:=n3_;have BK459:=n4_;have BK472:=n5_;have HB:=n6_;clear n0_ n1_ n2_ n3_ n4_ n5_ n6_;(try clear hb);(try clear hb2);(try clear hk);(try clear hi)))
  go_ret
  exact ⟨by first|rfl|(simp [errW_none,errW_some] <;> rfl)|(simp [*,errW_none,errW_some] <;> rfl),by repeat (first|(with_reducible first|exact HB.out|apply zD|apply zC|apply zE|refine zF ?_ GE459.out|refine zF ?_ GE472.out)|exact HB.out)⟩
end Go.Proofs.YtkpddelnkjjflaaDoor.M
