import Derived.Test.YtgdijfhdpgdanaaGreatDoorKProductBehindsG41
import Derived.Test.YtgdijfhdpgdanaaGreatDoorKProductBehindsG33
namespace Go.Proofs.YtgdijfhdpgdanaaGreatDoor.B
open Go.Proofs.YtgdijfhdpgdanaaGreatDoor.Al
open Go.World renaming block_lt_of_cell? → zB
open Option renaming bind_eq_some_iff → zb
open List renaming setIfInBounds_toArray → zX, set_cons_zero → zY, set_cons_succ → zZ
open Go.Proofs.YtgdijfhdpgdanaaGreatDoorW.PrintWords renaming below_drew1 → zE, below_step → zH, blk_cell → zI, blk_frozen → zJ, blk_drew → zM, gate_callee → zU, gate_dst → zV
open Go.Proofs.YtgdijfhdpgdanaaGreatDoor.Sq Go.RowKit Go.Proofs.YtgdijfhdpgdanaaGreatDoorW.PrintWords Go.Proofs.YtgdijfhdpgdanaaGreatDoorW.PrintLast Go.Proofs.YtgdijfhdpgdanaaGreatDoorW.PrintMore
attribute [local go_sem] max2_int min2_int max_two min_two max_three min_three max_four min_four
set_option linter.unusedVariables false
set_option linter.unusedSimpArgs false
mutual
def zAF.j0:Nat → Int → Bool → List (S113) → List (S102) → List (List (S96)) → List (S96) → Int → Int → Option ((List (S31)) × Int)
 | 0,_,_,_,_,_,_,_,_=>none
 | k + 1,x9,x47,x729000,x729001,x729002,x729003,x730000,x730001=>if x47 = true then (some (([]:List (S31)),9)) else ((zAd.f k x729000 x729001 x729002 x730000).bind fun bt736=>((zAS.f k x729000 x729001 x730000).bind fun bt740=>(zAF.l0 k x9 bt736.1 bt740.1 ([]:List (S31)) 0 x729000 x729001 x729002 x729003 x730000 x730001)))
def zAF.l0:Nat → Int → List Bool → List Int → List (S31) → Int → List (S113) → List (S102) → List (List (S96)) → List (S96) → Int → Int → Option ((List (S31)) × Int)
 | 0,_,_,_,_,_,_,_,_,_,_,_=>none
 | k + 1,x9,x10,x12,x14,x15,x729000,x729001,x729002,x729003,x730000,x730001=>if x15 < (x12.length:Int) then (if 0 ≤ x15 then ((zAd.f k x729000 x729001 x729002 (rd x12 x15)).bind fun bt745=>(zAF.l1 k x9 x10 x12 x14 x15 bt745.1 0 x729000 x729001 x729002 x729003 x730000 x730001)) else (none)) else (some (x14,0))
def zAF.l1:Nat → Int → List Bool → List Int → List (S31) → Int → List Bool → Int → List (S113) → List (S102) → List (List (S96)) → List (S96) → Int → Int → Option ((List (S31)) × Int)
 | 0,_,_,_,_,_,_,_,_,_,_,_,_,_=>none
 | k + 1,x9,x10,x12,x14,x15,x16,x18,x729000,x729001,x729002,x729003,x730000,x730001=>if x18 < x9 then ((zAA.f k x729003 x10 x730001 x16 x18).bind fun bt749=>(if bt749.1 = true then (if 0 ≤ x15 then (if x15 < (x12.length:Int) then (if x14.length < 8796093022208 then (zAF.l1 k x9 x10 x12 (x14 ++ [(⟨rd x12 x15,x18⟩:S31)]) x15 x16 (wrap64 (x18 + 1)) x729000 x729001 x729002 x729003 x730000 x730001) else (none)) else (none)) else (none)) else (zAF.l1 k x9 x10 x12 x14 x15 x16 (wrap64 (x18 + 1)) x729000 x729001 x729002 x729003 x730000 x730001))) else (zAF.l0 k x9 x10 x12 x14 (wrap64 (x15 + 1)) x729000 x729001 x729002 x729003 x730000 x730001)
end
def zAF.f (k:Nat) (l0_0:List (S113)) (l0_1:List (S102)) (l0_2:List (List (S96))) (l0_3:List (S96)) (a1_0:Int) (a1_1:Int):Option ((List (S31)) × Int):=(zAs.f k l0_0 l0_1 l0_2 l0_3).bind fun t730=>(if t730 = 0 then ((zAb.f k l0_0 l0_1).bind fun bt731=>((zAY.f k l0_0 l0_1 l0_2 l0_3).bind fun t733=>((zAE.f a1_0 0 (wrap64 (bt731.1 - 1))).bind fun t734=>(if t734 = true then ((zAE.f a1_1 0 (wrap64 (t733 - 1))).bind fun t735=>(zAF.j0 k t733 (!t735) l0_0 l0_1 l0_2 l0_3 a1_0 a1_1)) else (zAF.j0 k t733 true l0_0 l0_1 l0_2 l0_3 a1_0 a1_1))))) else (some (([]:List (S31)),t730)))
theorem zAF.mono_l:∀ k,(∀ y0 y1 y2 y3 y4 y5 y6 y7,LeO (zAF.j0 k y0 y1 y2 y3 y4 y5 y6 y7) (zAF.j0 (k + 1) y0 y1 y2 y3 y4 y5 y6 y7))∧(∀ y0 y1 y2 y3 y4 y5 y6 y7 y8 y9 y10,LeO (zAF.l0 k y0 y1 y2 y3 y4 y5 y6 y7 y8 y9 y10) (zAF.l0 (k + 1) y0 y1 y2 y3 y4 y5 y6 y7 y8 y9 y10))∧(∀ y0 y1 y2 y3 y4 y5 y6 y7 y8 y9 y10 y11 y12,LeO (zAF.l1 k y0 y1 y2 y3 y4 y5 y6 y7 y8 y9 y10 y11 y12) (zAF.l1 (k + 1) y0 y1 y2 y3 y4 y5 y6 y7 y8 y9 y10 y11 y12))
 | 0=>⟨fun _ _ _ _ _ _ _ _ r h=>by simp [zAF.j0] at h,fun _ _ _ _ _ _ _ _ _ _ _ r h=>by simp [zAF.l0] at h,fun _ _ _ _ _ _ _ _ _ _ _ _ _ r h=>by simp [zAF.l1] at h⟩
 | k + 1=>by
  obtain ⟨ih0,ih1,ih2⟩:=zAF.mono_l k
  refine ⟨?_,?_,?_⟩
  ·intro y0 y1 y2 y3 y4 y5 y6 y7
   unfold zAF.j0
   repeat' first
   | (with_reducible exact ih0 _ _ _ _ _ _ _ _)
   | (with_reducible exact ih1 _ _ _ _ _ _ _ _ _ _ _)
   | (with_reducible exact ih2 _ _ _ _ _ _ _ _ _ _ _ _ _)
   | (with_reducible exact zAA.mono _ _ _ _ _ _)
   | (with_reducible exact zAd.mono _ _ _ _ _)
   | (with_reducible exact zAS.mono _ _ _ _)
   | (with_reducible exact zAb.mono _ _ _)
   | (with_reducible exact zAs.mono _ _ _ _ _)
   | (with_reducible exact zAY.mono _ _ _ _ _)
   | (with_reducible exact LeO.refl _)
   | (with_reducible exact LeO.none _)
   | (with_reducible refine LeO.ite ?_ ?_)
   | (with_reducible refine LeO.bind ?_ (fun _=>?_))
   | exact ih0 _ _ _ _ _ _ _ _
   | exact ih1 _ _ _ _ _ _ _ _ _ _ _
   | exact ih2 _ _ _ _ _ _ _ _ _ _ _ _ _
   | exact zAA.mono _ _ _ _ _ _
   | exact zAd.mono _ _ _ _ _
   | exact zAS.mono _ _ _ _
   | exact zAb.mono _ _ _
   | exact zAs.mono _ _ _ _ _
   | exact zAY.mono _ _ _ _ _
   | exact LeO.none _
   | refine LeO.ite ?_ ?_
   | refine LeO.bind ?_ (fun _=>?_)
  ·intro y0 y1 y2 y3 y4 y5 y6 y7 y8 y9 y10
   unfold zAF.l0
   repeat' first
   | (with_reducible exact ih0 _ _ _ _ _ _ _ _)
   | (with_reducible exact ih1 _ _ _ _ _ _ _ _ _ _ _)
   | (with_reducible exact ih2 _ _ _ _ _ _ _ _ _ _ _ _ _)
   | (with_reducible exact zAA.mono _ _ _ _ _ _)
   | (with_reducible exact zAd.mono _ _ _ _ _)
   | (with_reducible exact zAS.mono _ _ _ _)
   | (with_reducible exact zAb.mono _ _ _)
   | (with_reducible exact zAs.mono _ _ _ _ _)
   | (with_reducible exact zAY.mono _ _ _ _ _)
   | (with_reducible exact LeO.refl _)
   | (with_reducible exact LeO.none _)
   | (with_reducible refine LeO.ite ?_ ?_)
   | (with_reducible refine LeO.bind ?_ (fun _=>?_))
   | exact ih0 _ _ _ _ _ _ _ _
   | exact ih1 _ _ _ _ _ _ _ _ _ _ _
   | exact ih2 _ _ _ _ _ _ _ _ _ _ _ _ _
   | exact zAA.mono _ _ _ _ _ _
   | exact zAd.mono _ _ _ _ _
   | exact zAS.mono _ _ _ _
   | exact zAb.mono _ _ _
   | exact zAs.mono _ _ _ _ _
   | exact zAY.mono _ _ _ _ _
   | exact LeO.none _
   | refine LeO.ite ?_ ?_
   | refine LeO.bind ?_ (fun _=>?_)
  ·intro y0 y1 y2 y3 y4 y5 y6 y7 y8 y9 y10 y11 y12
   unfold zAF.l1
   repeat' first
   | (with_reducible exact ih0 _ _ _ _ _ _ _ _)
   | (with_reducible exact ih1 _ _ _ _ _ _ _ _ _ _ _)
   | (with_reducible exact ih2 _ _ _ _ _ _ _ _ _ _ _ _ _)
   | (with_reducible exact zAA.mono _ _ _ _ _ _)
   | (with_reducible exact zAd.mono _ _ _ _ _)
   | (with_reducible exact zAS.mono _ _ _ _)
   | (with_reducible exact zAb.mono _ _ _)
   | (with_reducible exact zAs.mono _ _ _ _ _)
   | (with_reducible exact zAY.mono _ _ _ _ _)
   | (with_reducible exact LeO.refl _)
   | (with_reducible exact LeO.none _)
   | (with_reducible refine LeO.ite ?_ ?_)
   | (with_reducible refine LeO.bind ?_ (fun _=>?_))
   | exact ih0 _ _ _ _ _ _ _ _
   | exact ih1 _ _ _ _ _ _ _ _ _ _ _
   | exact ih2 _ _ _ _ _ _ _ _ _ _ _ _ _
   | exact zAA.mono _ _ _ _ _ _
   | exact zAd.mono _ _ _ _ _
   | exact zAS.mono _ _ _ _
   | exact zAb.mono _ _ _
   | exact zAs.mono _ _ _ _ _
   | exact zAY.mono _ _ _ _ _
   | exact LeO.none _
   | refine LeO.ite ?_ ?_
   | refine LeO.bind ?_ (fun _=>?_)
theorem zAF.mono:∀ a0 a1 a2 a3 a4 a5 k,LeO (zAF.f k a0 a1 a2 a3 a4 a5) (zAF.f (k + 1) a0 a1 a2 a3 a4 a5):=by
 intro a0 a1 a2 a3 a4 a5 k;obtain ⟨ih0,ih1,ih2⟩:=zAF.mono_l k;unfold zAF.f;repeat' first
   | (with_reducible exact ih0 _ _ _ _ _ _ _ _)
   | (with_reducible exact ih1 _ _ _ _ _ _ _ _ _ _ _)
   | (with_reducible exact ih2 _ _ _ _ _ _ _ _ _ _ _ _ _)
   | (with_reducible exact zAA.mono _ _ _ _ _ _)
   | (with_reducible exact zAd.mono _ _ _ _ _)
   | (with_reducible exact zAS.mono _ _ _ _)
   | (with_reducible exact zAb.mono _ _ _)
   | (with_reducible exact zAs.mono _ _ _ _ _)
   | (with_reducible exact zAY.mono _ _ _ _ _)
   | (with_reducible exact LeO.refl _)
   | (with_reducible exact LeO.none _)
   | (with_reducible refine LeO.ite ?_ ?_)
   | (with_reducible refine LeO.bind ?_ (fun _=>?_))
   | exact ih0 _ _ _ _ _ _ _ _
   | exact ih1 _ _ _ _ _ _ _ _ _ _ _
   | exact ih2 _ _ _ _ _ _ _ _ _ _ _ _ _
   | exact zAA.mono _ _ _ _ _ _
   | exact zAd.mono _ _ _ _ _
   | exact zAS.mono _ _ _ _
   | exact zAb.mono _ _ _
   | exact zAs.mono _ _ _ _ _
   | exact zAY.mono _ _ _ _ _
   | exact LeO.none _
   | refine LeO.ite ?_ ?_
   | refine LeO.bind ?_ (fun _=>?_)
def zAF.T14:Bool × List (List Nat × List Nat):=(true,[([],[]),([0],[0]),([],[]),([2],[2]),([],[]),([],[]),([4,5],[4,5]),([6],[6]),([1,3,7],[1,3,7]),([8],[8]),([9],[9]),([9],[9]),([10,8,0,1,2,3,4,5,6,7,8,9,10],[10]),([11,12,0,1,2,3,4,5,6,7,8,9,10,11,12],[11])])
def zAF.B14:List Nat:=[0,1,0,4,0,0,48,112,255,511,1023,1023,2047,8191]
theorem zAF.tab14:rtab .any (opsOf Tryz.f8 14) = zAF.T14:=by kernel_rfl
theorem zAF.bits14:waitsOk zAF.T14.2 zAF.B14 = true:=by kernel_rfl
set_option maxHeartbeats 8000000 in
set_option maxRecDepth 100000 in
theorem zAF.calls (k:Nat) (A0_0:Option Addr) (c0_0:Nat) (l0_0:List (S113)) (A0_1:Option Addr) (c0_1:Nat) (l0_1:List (S102)) (A0_2:Option Addr) (c0_2:Nat) (l0_2:List (List (S96))) (A0_3:Option Addr) (c0_3:Nat) (l0_3:List (S96)) (a1_0:Int) (a1_1:Int) (r1:List (S31)) (r2:Int) (w:World) (hr0_0:Kd.C k113 w A0_0 l0_0.length l0_0) (hc0_0:l0_0.length ≤ c0_0) (hr0_1:Kd.C k102 w A0_1 l0_1.length l0_1) (hc0_1:l0_1.length ≤ c0_1) (hr0_2:Kd.C (Kd.slice 96 k96) w A0_2 l0_2.length l0_2) (hc0_2:l0_2.length ≤ c0_2) (hr0_3:Kd.C k96 w A0_3 l0_3.length l0_3) (hc0_3:l0_3.length ≤ c0_3) (h:zAF.f k l0_0 l0_1 l0_2 l0_3 a1_0 a1_1 = some (r1,r2)) :
  Calls Tryz.prog 8 #[.agg #[.slice A0_0 l0_0.length c0_0,.slice A0_1 l0_1.length c0_1,.slice A0_2 l0_2.length c0_2,.slice A0_3 l0_3.length c0_3],.agg #[.int .i64 a1_0,.int .i64 a1_1]] w fun e w'=>∃ v0_:Value,e = .returned (.tuple #[v0_,.int .i64 r2])∧Kd.R k31 31 w' w.heap.size (fun _=>True) v0_ r1∧Below w.heap.size w w':=by
 have hu29:=Tryz.underlying29;have hu31:=Tryz.underlying31;have hu25:=Tryz.underlying25;have HR0_0:=zA hr0_0;have HC0_0:=zA hc0_0;clear hr0_0 hc0_0;have HR0_1:=zA hr0_1;have HC0_1:=zA hc0_1;clear hr0_1 hc0_1;have HR0_2:=zA hr0_2;have HC0_2:=zA hc0_2;clear hr0_2 hc0_2;have HR0_3:=zA hr0_3;have HC0_3:=zA hc0_3;clear hr0_3 hc0_3;have HB:=zA (Below.refl w.heap.size w);have H:((zAs.f k l0_0 l0_1 l0_2 l0_3).bind fun t730=>(if t730 = 0 then ((zAb.f k l0_0 l0_1).bind fun bt731=>((zAY.f k l0_0 l0_1 l0_2 l0_3).bind fun t733=>((zAE.f a1_0 0 (wrap64 (bt731.1 - 1))).bind fun t734=>(if t734 = true then ((zAE.f a1_1 0 (wrap64 (t733 - 1))).bind fun t735=>(zAF.j0 k t733 (!t735) l0_0 l0_1 l0_2 l0_3 a1_0 a1_1)) else (zAF.j0 k t733 true l0_0 l0_1 l0_2 l0_3 a1_0 a1_1))))) else (some (([]:List (S31)),t730)))) = some (r1,r2):=h;clear h;replace H:=zb.mp H;obtain ⟨t730,A30,H⟩:=H;(try dsimp only at H);have A3:=zA A30;clear A30;rcases qE H with ⟨c4b0,c4b1,H⟩|⟨c4,c4b0,c4b1,H⟩
 ·replace H:=zb.mp H;obtain ⟨⟨t731,t732⟩,A50,H⟩:=H;(try dsimp only at H);have A5:=zA A50;clear A50;replace H:=zb.mp H;obtain ⟨t733,A60,H⟩:=H;(try dsimp only at H);have A6:=zA A60;clear A60;have HC7:=zA H;clear H;go_enter Tryz.func8,Tryz.ntmps8;go_upto_region 6 with (first|((with_reducible refine zV (N:=2) rfl ?_);refine bQ 2 (cs:=#[.slice A0_0 l0_0.length c0_0,.slice A0_1 l0_1.length c0_1,.slice A0_2 l0_2.length c0_2,.slice A0_3 l0_3.length c0_3]) (t:=29) ?_;intro gb728 hg w8 BK728 hb;have GW728:=zA (qg hg);replace HB:=zA (zH qb hb);clear hb hg)|((with_reducible refine zV (N:=3) rfl ?_);refine bQ 3 (cs:=#[.int .i64 a1_0,.int .i64 a1_1]) (t:=31) ?_;intro gb729 hg w9 BK729 hb;have GW729:=zA (qg hg);replace HB:=zA (zH qb hb);have NB728_729:=zA (qn hg BK728);have NB729_728:=zA ((qn hg BK728).symm);replace BK728:=qK BK728 hb;clear hb hg;have hnb10:=NB728_729.out;have hnc10:=NB729_728.out;obtain ⟨hcz11_0,hcz11_1,hcz11_2,hcz11_3⟩:=q4 BK728;have hfz11_0:=zJ BK728.out)|((with_reducible refine zU (f:=26) rfl ?_);refine gL (some 22) Tryz.func26 #[.agg #[.slice A0_0 l0_0.length c0_0,.slice A0_1 l0_1.length c0_1,.slice A0_2 l0_2.length c0_2,.slice A0_3 l0_3.length c0_3]] ?_;(with_reducible refine (zAs.calls k _ _ l0_0 _ _ l0_1 _ _ l0_2 _ _ l0_3 t730 _ (qc HR0_0) HC0_0.out (qc HR0_1) HC0_1.out (qc HR0_2) HC0_2.out (qc HR0_3) HC0_3.out A3.out).mono ?_);rintro e w12 ⟨rfl,hb⟩;refine ⟨_,rfl,?_⟩;replace BK728:=qK BK728 hb;replace BK729:=qK BK729 hb;replace HB:=zA (zH qb hb);clear hb;obtain ⟨hcz13_0,hcz13_1,hcz13_2,hcz13_3⟩:=q4 BK728;have hfz13_0:=zJ BK728.out)|((with_reducible refine zU (f:=27) rfl ?_);refine gL (some 29) Tryz.func27 #[.agg #[.slice A0_0 l0_0.length c0_0,.slice A0_1 l0_1.length c0_1]] ?_;(with_reducible refine (zAb.calls k _ _ l0_0 _ _ l0_1 t731 t732 _ (qc HR0_0) HC0_0.out (qc HR0_1) HC0_1.out A5.out).mono ?_);rintro e w14 ⟨rfl,hb⟩;refine ⟨_,rfl,?_⟩;replace BK728:=qK BK728 hb;replace BK729:=qK BK729 hb;replace HB:=zA (zH qb hb);clear hb;obtain ⟨hcz15_0,hcz15_1,hcz15_2,hcz15_3⟩:=q4 BK728;have hfz15_0:=zJ BK728.out)|((with_reducible refine zU (f:=28) rfl ?_);refine gL (some 33) Tryz.func28 #[.agg #[.slice A0_0 l0_0.length c0_0,.slice A0_1 l0_1.length c0_1,.slice A0_2 l0_2.length c0_2,.slice A0_3 l0_3.length c0_3]] ?_;(with_reducible refine (zAY.calls k _ _ l0_0 _ _ l0_1 _ _ l0_2 _ _ l0_3 t733 _ (qc HR0_0) HC0_0.out (qc HR0_1) HC0_1.out (qc HR0_2) HC0_2.out (qc HR0_3) HC0_3.out A6.out).mono ?_);rintro e w16 ⟨rfl,hb⟩;refine ⟨_,rfl,?_⟩;replace BK728:=qK BK728 hb;replace BK729:=qK BK729 hb;replace HB:=zA (zH qb hb);clear hb));(try simp only [Act.put,zX,zY,zZ]);go_cut [47] (fun v47 wc=>∃ (kq:Nat) (x47_6:Bool),v47 = .bool x47_6∧Aside0 (zAF.j0 kq t733 x47_6 l0_0 l0_1 l0_2 l0_3 a1_0 a1_1 = some (r1,r2))∧Aside0 (kq ≤ k)∧Aside0 (wc.heap[gb728]? = some (.cells #[(.slice A0_0 l0_0.length c0_0),(.slice A0_1 l0_1.length c0_1),(.slice A0_2 l0_2.length c0_2),(.slice A0_3 l0_3.length c0_3)] 29 (0,0)))∧Aside0 (wc.heap[gb729]? = some (.cells #[.int .i64 a1_0,.int .i64 a1_1] 31 (0,0)))∧Aside0 (Below w.heap.size w wc))
  case first =>
   have H:=HC7.out;clear HC7;replace H:=zb.mp H;obtain ⟨t734,A170,H⟩:=H;(try dsimp only at H);have A17:=zA A170;clear A170;by_cases c18:t734 = true
   ·subst c18;rw [if_pos rfl] at H
    replace H:=zb.mp H;obtain ⟨t735,A190,H⟩:=H;(try dsimp only at H);have A19:=zA A190;clear A190;have H':=zA H;clear H;have hnb20:=NB729_728.out;have hnc20:=NB728_729.out;obtain ⟨hcz21_0,hcz21_1⟩:=q2 BK729;have hfz21_0:=zJ BK729.out;go_wp2_with (first|((with_reducible refine zU (f:=29) rfl ?_);refine gL (some 38) Tryz.func29 #[.int .i64 a1_0,.int .i64 0,.int .i64 (wrap64 (t731 - 1))] ?_;(with_reducible refine (zAE.calls a1_0 0 (wrap64 (t731 - 1)) true _ A17.out).mono ?_);rintro e w' ⟨rfl,⟨nd,rfl⟩⟩;refine ⟨_,rfl,?_⟩)|(go_at_call 29;(with_reducible refine (zAE.calls a1_1 0 (wrap64 (t733 - 1)) t735 _ A19.out).mono ?_);rintro e w' ⟨rfl,⟨nd,rfl⟩⟩));go_meet
    case rel=>exact ⟨_,(!t735),qr,H',⟨qm⟩,⟨qk BK728⟩,⟨qk BK729⟩,⟨qb⟩⟩
   ·replace c18:=Bool.eq_false_iff.mpr c18;subst c18;rw [if_neg (show ¬ (false = true) by decide)] at H
    have H':=zA H;clear H;have hnb22:=NB729_728.out;have hnc22:=NB728_729.out;obtain ⟨hcz23_0,hcz23_1⟩:=q2 BK729;have hfz23_0:=zJ BK729.out;go_wp2_with (first|((with_reducible refine zU (f:=29) rfl ?_);refine gL (some 38) Tryz.func29 #[.int .i64 a1_0,.int .i64 0,.int .i64 (wrap64 (t731 - 1))] ?_;(with_reducible refine (zAE.calls a1_0 0 (wrap64 (t731 - 1)) false _ A17.out).mono ?_);rintro e w' ⟨rfl,⟨nd,rfl⟩⟩;refine ⟨_,rfl,?_⟩));go_meet
    case rel=>exact ⟨_,(true),qr,H',⟨qm⟩,⟨qk BK728⟩,⟨qk BK729⟩,⟨qb⟩⟩
  case rest =>
   clear HC7;obtain ⟨kq,x47_6,rfl,HA,HJ6,BK728,BK729,HB⟩:=hcut;cases kq with
   | zero=>exact absurd HA.out (by simp [zAF.j0])
   | succ kj6 =>
    have H:=HA.out;clear HA;simp only [zAF.j0] at H;by_cases c24:x47_6 = true
    ·subst c24;rw [if_pos rfl] at H
     obtain ⟨rfl,rfl⟩:=qP H;go_wp2;go_ret2;exact ⟨_,qe,ql,qb⟩
    ·replace c24:=Bool.eq_false_iff.mpr c24;subst c24;rw [if_neg (show ¬ (false = true) by decide)] at H
     replace H:=zb.mp H;obtain ⟨⟨t736,t739⟩,A250,H⟩:=H;(try dsimp only at H);have A25:=zA A250;clear A250;replace H:=zb.mp H;obtain ⟨⟨t740,t743⟩,A260,H⟩:=H;(try dsimp only at H);have A26:=zA A260;clear A260;have H':=zA H;clear H;have hnb27:=NB728_729.out;have hnc27:=NB729_728.out;obtain ⟨hcz28_0,hcz28_1,hcz28_2,hcz28_3⟩:=q4 BK728;have hfz28_0:=zJ BK728.out;obtain ⟨hcz29_0,hcz29_1⟩:=q2 BK729;have hfz29_0:=zJ BK729.out;go_wp2_with (first|((with_reducible refine zU (f:=30) rfl ?_);refine gL (some 55) Tryz.func30 #[.agg #[.slice A0_0 l0_0.length c0_0,.slice A0_1 l0_1.length c0_1],.slice A0_2 l0_2.length c0_2,.int .i64 a1_0] ?_;(with_reducible refine (zAd.calls kj6 _ _ l0_0 _ _ l0_1 _ _ l0_2 a1_0 t736 t739 _ (qc HR0_0) HC0_0.out (qc HR0_1) HC0_1.out (qc HR0_2) HC0_2.out A25.out).mono ?_);rintro e w30 ⟨v737,rfl,ho0,hb⟩;refine ⟨_,rfl,?_⟩;have HO738:=zA (Kd.R_lower ho0 qs);replace BK728:=qK BK728 hb;replace BK729:=qK BK729 hb;replace HB:=zA (zH qb hb);clear ho0 hb;obtain ⟨hcz31_0,hcz31_1,hcz31_2,hcz31_3⟩:=q4 BK728;have hfz31_0:=zJ BK728.out;obtain ⟨hcz32_0,hcz32_1⟩:=q2 BK729;have hfz32_0:=zJ BK729.out)|((with_reducible refine zU (f:=31) rfl ?_);refine gL (some 63) Tryz.func31 #[.agg #[.slice A0_0 l0_0.length c0_0,.slice A0_1 l0_1.length c0_1],.int .i64 a1_0] ?_;(with_reducible refine (zAS.calls kj6 _ _ l0_0 _ _ l0_1 a1_0 t740 t743 _ (qc HR0_0) HC0_0.out (qc HR0_1) HC0_1.out A26.out).mono ?_);rintro e w33 ⟨v741,rfl,ho0,hb⟩;refine ⟨_,rfl,?_⟩;replace HO738:=zA (Kd.R_below (qR HO738) hb);have HO742:=zA (Kd.R_lower ho0 qs);replace BK728:=qK BK728 hb;replace BK729:=qK BK729 hb;replace HB:=zA (zH qb hb);clear ho0 hb));go_loopg [14,15] kj6 (fun kq v14 v15 w'=>∃ (x14_2:List (S31)) (x15_2:Int),v15 = .int .i64 x15_2∧Aside0 (zAF.l0 kq t733 t736 t740 x14_2 x15_2 l0_0 l0_1 l0_2 l0_3 a1_0 a1_1 = some (r1,r2))∧Aside0 (kq ≤ kj6)∧Aside0 (Kd.R Kd.bool 4 w' w.heap.size (fun _=>True) v737 t736)∧Aside0 (Kd.R (Kd.int .i64) 3 w' w.heap.size (fun _=>True) v741 t740)∧Aside0 (Kd.R k31 31 w' w.heap.size (fun k_=>k_ ≠ gb729) v14 x14_2)∧Aside0 (w'.heap[gb728]? = some (.cells #[(.slice A0_0 l0_0.length c0_0),(.slice A0_1 l0_1.length c0_1),(.slice A0_2 l0_2.length c0_2),(.slice A0_3 l0_3.length c0_3)] 29 (0,0)))∧Aside0 (w'.heap[gb729]? = some (.cells #[.int .i64 a1_0,.int .i64 a1_1] 31 (0,0)))∧Aside0 (Below w.heap.size w w'))
     case atStart=>exact ⟨(([]:List (S31))),(0),qr,H',⟨Nat.le_refl _⟩,⟨qR HO738⟩,⟨qR HO742⟩,⟨ql⟩,⟨qk BK728⟩,⟨qk BK729⟩,⟨qb⟩⟩
     case round =>
      clear H';obtain ⟨x14_2,x15_2,rfl,HA,HK2,HO_10,HO_12,HO_14,BK728,BK729,HB⟩:=hrel;cases gk with
      | zero=>exact absurd HA.out (by simp [zAF.l0])
      | succ k2 =>
       have H:=HA.out;clear HA;simp only [zAF.l0] at H;rcases qj H with ⟨c34b0,H⟩|⟨c34b0,H⟩
       ·rcases qj H with ⟨c35b0,H⟩|⟨c35,H⟩
        ·replace H:=zb.mp H;obtain ⟨⟨t745,t748⟩,A360,H⟩:=H;(try dsimp only at H);have A36:=zA A360;clear A360;have H':=zA H;clear H;obtain ⟨Ao37,co37,eo37⟩:=Kd.R_slice HO_12.out;subst eo37;(try go_wp2);replace HO_10:=zA (Kd.R_drew HO_10.out);replace HO_12:=zA (Kd.R_drew HO_12.out);replace HO_14:=zA (Kd.R_drew HO_14.out);replace BK728:=zA (zM BK728.out);replace BK729:=zA (zM BK729.out);replace HB:=zA (zE HB.out);have p744:0 ≤ (x15_2:Int):=qd;have q744:x15_2 < (t740.length:Int):=qd;(try (obtain ⟨A_,c_,e_⟩:=Kd.R_slice HO_12.out;subst e_));obtain ⟨ad744,e744,hx744_0⟩:=Kd.at_int (Kd.R_reads' HO_12.out).2.2 x15_2 p744 q744;cases e744;replace p744:=qT p744;replace q744:=qT q744;refine start_ (n:=14) (S:=fun w'=>w'.cell? ⟨gb728,0,none⟩ = some (.slice A0_0 l0_0.length c0_0)∧w'.cell? ⟨gb728,1,none⟩ = some (.slice A0_1 l0_1.length c0_1)∧w'.cell? ⟨gb728,2,none⟩ = some (.slice A0_2 l0_2.length c0_2)∧w'.cell? ⟨gb728,3,none⟩ = some (.slice A0_3 l0_3.length c0_3)∧w'.cell? (ad744.add (x15_2).toNat) = some (.int .i64 (rd t740 x15_2))) (ds:=[]) #[false,false,false,false,false,false,false,false,false,false,false,false,false,false] (by kernel_rfl) rfl rfl ⟨(zI BK728.out 0).trans rfl,(zI BK728.out 1).trans rfl,(zI BK728.out 2).trans rfl,(zI BK728.out 3).trans rfl,hx744_0⟩ (fun hHeld=>?_);refine with_tabW zAF.tab14 zAF.bits14 (fun HT_ HW_=>?_);generalize wr.drew = w38 at HO_10 HO_12 HO_14 BK728 BK729 HB hx744_0 hHeld ⊢;refine pq 0 (some 73) HT_ ?_;refine pq 2 (some 75) HT_ ?_;refine pq 4 (some 77) HT_ ?_;refine pq 5 (some 78) HT_ ?_;refine pq 6 (some 79) HT_ ?_;refine tq 1 (some 74) HT_ HW_ hHeld ?_;refine tq 3 (some 76) HT_ HW_ hHeld ?_;refine tq 7 (some 80) HT_ HW_ hHeld ?_;refine oq 8 (some 81) HT_ (fun K hK=>?_);refine gq Tryz.func30 #[.agg #[.slice A0_0 l0_0.length c0_0,.slice A0_1 l0_1.length c0_1],.slice A0_2 l0_2.length c0_2,.int .i64 (rd t740 x15_2)] ?_;(with_reducible refine (zAd.calls k2 _ _ l0_0 _ _ l0_1 _ _ l0_2 (rd t740 x15_2) t745 t748 _ (qc HR0_0) HC0_0.out (qc HR0_1) HC0_1.out (qc HR0_2) HC0_2.out A36.out).mono ?_);rintro e w39 ⟨v746,rfl,ho0,hb⟩;have HS4_:=(hb.cell (zB _ _ (hHeld.2.2.2.2))).trans (hHeld.2.2.2.2);refine ⟨_,rfl,?_⟩;replace HO_12:=zA (Kd.R_below (qR HO_12) hb);replace HO_14:=zA (Kd.R_below (qR HO_14) hb);have HO747:=zA (Kd.R_lower (Kd.R_new' ho0 (Kd.R_lt (qR HO_10))) qs);replace HO_10:=zA (Kd.R_elder' (qR HO_10) (Kd.R_base ho0) hb);replace BK728:=qK BK728 hb;replace BK729:=qK BK729 hb;replace HB:=zA (zH qb hb);(try clear hb);(try clear hb2);(try clear hk);(try clear hi);(try clear ho0);refine hK.out _ _ ⟨(zI BK728.out 0).trans rfl,(zI BK728.out 1).trans rfl,(zI BK728.out 2).trans rfl,(zI BK728.out 3).trans rfl,HS4_⟩ (fun hHeld=>?_);clear hK K;refine norm_ (a':=?_) ?_ ?_;rotate_left
         ·show Act.put _ (some 81) _ = _;simp only [Act.put,zX,zY,zZ,i64_w,i32_w];rfl
         refine pq 9 (some 72) HT_ ?_;refine pq 10 (some 82) HT_ ?_;refine pq 11 (some 83) HT_ ?_;refine pq 12 (some 16) HT_ ?_;refine pq 13 (some 17) HT_ ?_;refine done_ (done_of HT_.out (by kernel_rfl)) ?_;(try go_wp2);go_loopg [14,18] k2 (fun kq v14 v18 w'=>∃ (x14_3:List (S31)) (x18_3:Int),v18 = .int .i64 x18_3∧Aside0 (zAF.l1 kq t733 t736 t740 x14_3 x15_2 t745 x18_3 l0_0 l0_1 l0_2 l0_3 a1_0 a1_1 = some (r1,r2))∧Aside0 (kq ≤ k2)∧Aside0 (Kd.R Kd.bool 4 w' w.heap.size (fun k_=>some k_ ≠ (v746:Value).ownBlock) v737 t736)∧Aside0 (Kd.R (Kd.int .i64) 3 w' w.heap.size (fun _=>True) (.slice (some ad744) t740.length co37) t740)∧Aside0 (Kd.R k31 31 w' w.heap.size (fun k_=>k_ ≠ gb729) v14 x14_3)∧Aside0 (Kd.R Kd.bool 4 w' w.heap.size (fun k_=>some k_ ≠ (v737:Value).ownBlock) v746 t745)∧Aside0 (w'.heap[gb728]? = some (.cells #[(.slice A0_0 l0_0.length c0_0),(.slice A0_1 l0_1.length c0_1),(.slice A0_2 l0_2.length c0_2),(.slice A0_3 l0_3.length c0_3)] 29 (0,0)))∧Aside0 (w'.heap[gb729]? = some (.cells #[.int .i64 a1_0,.int .i64 a1_1] 31 (0,0)))∧Aside0 (Below w.heap.size w w'))
         case atStart=>exact ⟨(x14_2),(0),qr,H',⟨Nat.le_refl _⟩,⟨by (with_reducible repeat (first|apply Kd.R_alloc|apply Kd.R_drewN|apply Kd.R_drew));exact Kd.R_mono HO_10.out (fun _ hk=>hk.2)⟩,⟨qR HO_12⟩,⟨qR HO_14⟩,⟨by (with_reducible repeat (first|apply Kd.R_alloc|apply Kd.R_drewN|apply Kd.R_drew));exact Kd.R_mono HO747.out (fun _ hk=>hk.2)⟩,⟨qk BK728⟩,⟨qk BK729⟩,⟨qb⟩⟩
         case round =>
          clear H';obtain ⟨x14_3,x18_3,rfl,HA,HK3,HO_10,HO_12,HO_14,HO_16,BK728,BK729,HB⟩:=hrel;cases gk with
          | zero=>exact absurd HA.out (by simp [zAF.l1])
          | succ k3 =>
           have H:=HA.out;clear HA;simp only [zAF.l1] at H;rcases qj H with ⟨c40b0,H⟩|⟨c40b0,H⟩
           ·replace H:=zb.mp H;obtain ⟨⟨t749,t750⟩,A410,H⟩:=H;(try dsimp only at H);have A41:=zA A410;clear A410;by_cases c42:t749 = true
            ·subst c42;rw [if_pos rfl] at H
             rcases qj H with ⟨c43b0,H⟩|⟨c43,H⟩
             ·rcases qj H with ⟨c44b0,H⟩|⟨c44,H⟩
              ·by_cases c45:x14_3.length < 8796093022208
               ·rw [if_pos c45] at H;have LMc45:=zA c45;clear c45;generalize hy752:(x14_3 ++ [(⟨rd t740 x15_2,x18_3⟩:S31)]) = y752 at H;replace hy752:=hy752.symm
                have Ny752:=zA hy752;clear hy752;have H':=zA H;clear H;have hnb46:=NB728_729.out;have hnc46:=NB729_728.out;obtain ⟨hcz47_0,hcz47_1,hcz47_2,hcz47_3⟩:=q4 BK728;have hfz47_0:=zJ BK728.out;obtain ⟨hcz48_0,hcz48_1⟩:=q2 BK729;have hfz48_0:=zJ BK729.out;obtain ⟨Ao49,co49,eo49⟩:=Kd.R_slice HO_10.out;subst eo49;obtain ⟨Ao50,co50,eo50⟩:=Kd.R_slice HO_16.out;subst eo50;go_wp2_with (first|((with_reducible refine zU (f:=32) rfl ?_);refine gL (some 97) Tryz.func32 #[.slice A0_3 l0_3.length c0_3,.slice Ao49 t736.length co49,.int .i64 a1_1,.slice Ao50 t745.length co50,.int .i64 x18_3] ?_;(with_reducible refine (zAA.calls k3 _ _ l0_3 _ _ t736 a1_1 _ _ t745 x18_3 true t750 _ (qc HR0_3) HC0_3.out (qu (Kd.R_reads' HO_10.out).2.2) ((Kd.R_reads' HO_10.out).2.1) (qu (Kd.R_reads' HO_16.out).2.2) ((Kd.R_reads' HO_16.out).2.1) A41.out).mono ?_);rintro e w51 ⟨rfl,hb⟩;refine ⟨_,rfl,?_⟩;replace HO_10:=zA (Kd.R_below (qR HO_10) hb);replace HO_12:=zA (Kd.R_below (qR HO_12) hb);replace HO_14:=zA (Kd.R_below (qR HO_14) hb);replace HO_16:=zA (Kd.R_below (qR HO_16) hb);replace BK728:=qK BK728 hb;replace BK729:=qK BK729 hb;replace HB:=zA (zH qb hb);clear hb;have p751:0 ≤ (x15_2:Int):=qd;have q751:x15_2 < (t740.length:Int):=qd;obtain ⟨ad751,e751,hx751_0⟩:=Kd.at_int (Kd.R_reads' HO_12.out).2.2 x15_2 p751 q751;obtain rfl:ad744 = ad751:=(by injection e751);replace p751:=qT p751;replace q751:=qT q751)|((with_reducible refine gate_builtin (b:=.append) (xs:=#[.tmp 101,.tmp 108]) rfl ?_);at_builtin;refine Kd.R_append k31 (w0:=w) w.heap.size rfl (.tmp 101) (.tmp 108) 32 31 (.agg #[(.int .i64 0),(.int .i64 0)]) 16 rfl Tryz.underlying32 info31 rfl (by decide) (by omega) u14 x14_3 (⟨rd t740 x15_2,x18_3⟩:S31) [.int .i64 (rd t740 x15_2),.int .i64 x18_3] (fun k_=>k_ ≠ gb729) (fun _=>False) rfl rfl (k31_mkM _ _ _ (⟨rd t740 x15_2,x18_3⟩:S31)) (fun _ hk=>hk.elim) (fun k_ hk=>Kd.freshB (g:=gb729) (o:=.cells #[.int .i64 a1_0,.int .i64 a1_1] 31 (0,0)) (qk BK729) k_ hk) (qR HO_14) qb qs (qo LMc45) ?_;intro v753 w52 ho hb hg hat;rw [← Ny752.out] at ho;replace HO_10:=zA (Kd.R_over' (qR HO_10) (Kd.R_typed (qR HO_14)) (by decide) hg);replace HO_12:=zA (Kd.R_over' (qR HO_12) (Kd.R_typed (qR HO_14)) (by decide) hg);replace HO_16:=zA (Kd.R_over' (qR HO_16) (Kd.R_typed (qR HO_14)) (by decide) hg);replace BK728:=zA (blk_grown (g:=gb728) (o:=.cells #[.slice A0_0 l0_0.length c0_0,.slice A0_1 l0_1.length c0_1,.slice A0_2 l0_2.length c0_2,.slice A0_3 l0_3.length c0_3] 29 (0,0)) (qk BK728) hg (Kd.R_ne HO_14.out BK728.out (by decide)));replace BK729:=zA (blk_grown (g:=gb729) (o:=.cells #[.int .i64 a1_0,.int .i64 a1_1] 31 (0,0)) (qk BK729) hg (Kd.R_away HO_14.out (fun _ hk=>hk)));replace HB:=zA (hb);have HO754:=zA (ho);clear HO_14;clear ho hb hg hat));go_roundg k3
                case measure=>have:=HJ6.out;have:=HK2.out;have:=HK3.out;omega
                case rel=>exact ⟨(y752),(wrap64 (x18_3 + 1)),qr,H',⟨qq HJ6 HK2 HK3⟩,⟨qR HO_10⟩,⟨qR HO_12⟩,⟨qR HO754⟩,⟨qR HO_16⟩,⟨qk BK728⟩,⟨qk BK729⟩,⟨qb⟩⟩
               ·rw [if_neg c45] at H;nomatch H
              ·nomatch H
             ·nomatch H
            ·replace c42:=Bool.eq_false_iff.mpr c42;subst c42;rw [if_neg (show ¬ (false = true) by decide)] at H
             have H':=zA H;clear H;have hnb53:=NB728_729.out;have hnc53:=NB729_728.out;obtain ⟨hcz54_0,hcz54_1,hcz54_2,hcz54_3⟩:=q4 BK728;have hfz54_0:=zJ BK728.out;obtain ⟨hcz55_0,hcz55_1⟩:=q2 BK729;have hfz55_0:=zJ BK729.out;obtain ⟨Ao56,co56,eo56⟩:=Kd.R_slice HO_10.out;subst eo56;obtain ⟨Ao57,co57,eo57⟩:=Kd.R_slice HO_16.out;subst eo57;go_wp2_with (first|((with_reducible refine zU (f:=32) rfl ?_);refine gL (some 97) Tryz.func32 #[.slice A0_3 l0_3.length c0_3,.slice Ao56 t736.length co56,.int .i64 a1_1,.slice Ao57 t745.length co57,.int .i64 x18_3] ?_;(with_reducible refine (zAA.calls k3 _ _ l0_3 _ _ t736 a1_1 _ _ t745 x18_3 false t750 _ (qc HR0_3) HC0_3.out (qu (Kd.R_reads' HO_10.out).2.2) ((Kd.R_reads' HO_10.out).2.1) (qu (Kd.R_reads' HO_16.out).2.2) ((Kd.R_reads' HO_16.out).2.1) A41.out).mono ?_);rintro e w58 ⟨rfl,hb⟩;refine ⟨_,rfl,?_⟩;replace HO_10:=zA (Kd.R_below (qR HO_10) hb);replace HO_12:=zA (Kd.R_below (qR HO_12) hb);replace HO_14:=zA (Kd.R_below (qR HO_14) hb);replace HO_16:=zA (Kd.R_below (qR HO_16) hb);replace BK728:=qK BK728 hb;replace BK729:=qK BK729 hb;replace HB:=zA (zH qb hb);clear hb));go_roundg k3
             case measure=>have:=HJ6.out;have:=HK2.out;have:=HK3.out;omega
             case rel=>exact ⟨(x14_3),(wrap64 (x18_3 + 1)),qr,H',⟨qq HJ6 HK2 HK3⟩,⟨qR HO_10⟩,⟨qR HO_12⟩,⟨qR HO_14⟩,⟨qR HO_16⟩,⟨qk BK728⟩,⟨qk BK729⟩,⟨qb⟩⟩
           ·have H':=zA H;clear H;go_wp2;go_roundg k3
            case measure=>have:=HJ6.out;have:=HK2.out;have:=HK3.out;omega
            case rel=>exact ⟨(x14_3),(wrap64 (x15_2 + 1)),qr,H',⟨qq HJ6 HK2 HK3⟩,⟨by (with_reducible repeat (first|apply Kd.R_alloc|apply Kd.R_drewN|apply Kd.R_drew));exact Kd.R_mono HO_10.out (fun _ hk=>trivial)⟩,⟨qR HO_12⟩,⟨qR HO_14⟩,⟨qk BK728⟩,⟨qk BK729⟩,⟨qb⟩⟩
        ·nomatch H
       ·obtain ⟨rfl,rfl⟩:=qP H;obtain ⟨Ao59,co59,eo59⟩:=Kd.R_slice HO_12.out;subst eo59;go_wp2;go_ret2;exact ⟨_,qe,by (with_reducible repeat (first|apply Kd.R_alloc|apply Kd.R_drewN|apply Kd.R_drew));exact Kd.R_mono HO_14.out (fun _ hk=>trivial),qb⟩
 ·obtain ⟨rfl,rfl⟩:=qP H;go_enter Tryz.func8,Tryz.ntmps8;go_wp2_with (first|((with_reducible refine zV (N:=2) rfl ?_);refine bQ 2 (cs:=#[.slice A0_0 l0_0.length c0_0,.slice A0_1 l0_1.length c0_1,.slice A0_2 l0_2.length c0_2,.slice A0_3 l0_3.length c0_3]) (t:=29) ?_;intro gb728 hg w60 BK728 hb;have GW728:=zA (qg hg);replace HB:=zA (zH qb hb);clear hb hg)|((with_reducible refine zV (N:=3) rfl ?_);refine bQ 3 (cs:=#[.int .i64 a1_0,.int .i64 a1_1]) (t:=31) ?_;intro gb729 hg w61 BK729 hb;have GW729:=zA (qg hg);replace HB:=zA (zH qb hb);have NB728_729:=zA (qn hg BK728);have NB729_728:=zA ((qn hg BK728).symm);replace BK728:=qK BK728 hb;clear hb hg;have hnb62:=NB728_729.out;have hnc62:=NB729_728.out;obtain ⟨hcz63_0,hcz63_1,hcz63_2,hcz63_3⟩:=q4 BK728;have hfz63_0:=zJ BK728.out)|((with_reducible refine zU (f:=26) rfl ?_);refine gL (some 22) Tryz.func26 #[.agg #[.slice A0_0 l0_0.length c0_0,.slice A0_1 l0_1.length c0_1,.slice A0_2 l0_2.length c0_2,.slice A0_3 l0_3.length c0_3]] ?_;(with_reducible refine (zAs.calls k _ _ l0_0 _ _ l0_1 _ _ l0_2 _ _ l0_3 t730 _ (qc HR0_0) HC0_0.out (qc HR0_1) HC0_1.out (qc HR0_2) HC0_2.out (qc HR0_3) HC0_3.out A3.out).mono ?_);rintro e w64 ⟨rfl,hb⟩;refine ⟨_,rfl,?_⟩;replace BK728:=qK BK728 hb;replace BK729:=qK BK729 hb;replace HB:=zA (zH qb hb);clear hb));go_ret2;exact ⟨_,qe,ql,qb⟩
theorem eqA31 (d:Nat) (w:World) (x0 y0:Int) (x1 y1:Int) :
  (Op.equalIn (d + 2) 31 (.agg #[.int .i64 x0,.int .i64 x1]) (.agg #[.int .i64 y0,.int .i64 y1])).run Tryz.prog w = .ok (x0 == y0 && (x1 == y1)) w:=by
 refine eqA_of Tryz.underlying31 (by kernel_rfl) ?_;refine eqf_cons (by rfl) (by go_simp;rfl) (by go_simp;rfl) (by go_simp) ?_;exact eqf_last (by rfl) (by go_simp;rfl) (by go_simp;rfl) (by go_simp)
end Go.Proofs.YtgdijfhdpgdanaaGreatDoor.B
namespace Go.Proofs.YtgdijfhdpgdanaaGreatDoor.B
open Go.Proofs.YtgdijfhdpgdanaaGreatDoor.Al
open Go.Proofs.YtgdijfhdpgdanaaGreatDoorW.PrintWords Go.Proofs.YtgdijfhdpgdanaaGreatDoor.Sq Go.RowKit Go.Proofs.YtgdijfhdpgdanaaGreatDoorW.PrintLast Go.Proofs.YtgdijfhdpgdanaaGreatDoorW.PrintMore
attribute [local go_sem] max2_int min2_int max_two min_two max_three min_three max_four min_four
attribute [local go_sem high] eqA31
set_option linter.unusedVariables false
set_option linter.unusedSimpArgs false
def zAk.l0:Nat → List (S31) → List (S31) → Int → Option (Bool)
 | 0,_,_,_=>none
 | k + 1,x0,x1,x5=>if x5 < (x0.length:Int) then (if 0 ≤ x5 then (if x5 < (x1.length:Int) then (if (!(((zBT x0 x5).f0) == ((zBT x1 x5).f0)) || (!(((zBT x0 x5).f1) == ((zBT x1 x5).f1)))) = true then (some false) else (zAk.l0 k x0 x1 (wrap64 (x5 + 1)))) else (none)) else (none)) else (some true)
def zAk.f (k:Nat) (l0:List (S31)) (l1:List (S31)):Option (Bool):=if (l0.length:Int) = (l1.length:Int) then (zAk.l0 k l0 l1 0) else (some false)
theorem zAk.mono_l:∀ k,(∀ y0 y1 y2,LeO (zAk.l0 k y0 y1 y2) (zAk.l0 (k + 1) y0 y1 y2))
 | 0=>fun _ _ _ r h=>by simp [zAk.l0] at h
 | k + 1=>by
  have ih0:=zAk.mono_l k
  ·intro y0 y1 y2
   unfold zAk.l0
   exact qL
theorem zAk.mono:∀ a0 a1 k,LeO (zAk.f k a0 a1) (zAk.f (k + 1) a0 a1):=by
 intro a0 a1 k;have ih0:=zAk.mono_l k;unfold zAk.f;exact qL
set_option maxHeartbeats 8000000 in
set_option maxRecDepth 100000 in
theorem zAk.calls (k:Nat) (A0:Option Addr) (c0:Nat) (l0:List (S31)) (A1:Option Addr) (c1:Nat) (l1:List (S31)) (r:Bool) (w:World) (hr0:Kd.C k31 w A0 l0.length l0) (hc0:l0.length ≤ c0) (hr1:Kd.C k31 w A1 l1.length l1) (hc1:l1.length ≤ c1) (h:zAk.f k l0 l1 = some r) :
  Calls Tryz.prog 9 #[.slice A0 l0.length c0,.slice A1 l1.length c1] w fun e w'=>e = .returned (.bool r)∧Drawn0 w w':=by
 have hu31:=Tryz.underlying31;have HR0:=zA hr0;have HC0:=zA hc0;clear hr0 hc0;have HR1:=zA hr1;have HC1:=zA hc1;clear hr1 hc1;have H:(if (l0.length:Int) = (l1.length:Int) then (zAk.l0 k l0 l1 0) else (some false)) = some r:=h;clear h;by_cases c3:(l0.length:Int) = (l1.length:Int)
 ·rw [if_pos c3] at H;have c3b0:((l0.length:Int) == (l1.length:Int)) = true:=beq_iff_eq.mpr c3;have c3b1:((l0.length:Int) != (l1.length:Int)) = false:=bne_eq_false_iff_eq.mpr c3;have c3b2:(l0.length == l1.length) = true:=by first|simpa using c3|(simp at c3 ⊢;omega)
  clear c3;have H':=zA H;clear H;go_enter Tryz.func9,Tryz.ntmps9;go_wp2;(repeat (go_quiet (fail);try go_wp2));go_loopg [5] k (fun kq v5 w'=>∃ (x5_1:Int),v5 = .int .i64 x5_1∧Aside0 (zAk.l0 kq l0 l1 x5_1 = some r)∧Aside0 (kq ≤ k)∧Drawn0 w w')
  case atStart=>exact ⟨(0),qr,H',⟨Nat.le_refl _⟩,qt⟩
  case round =>
   clear H';obtain ⟨x5_1,rfl,HA,HK1,⟨m1,rfl⟩⟩:=hrel;cases gk with
   | zero=>exact absurd HA.out (by simp [zAk.l0])
   | succ k1 =>
    have H:=HA.out;clear HA;simp only [zAk.l0] at H;rcases qj H with ⟨c4b0,H⟩|⟨c4b0,H⟩
    ·rcases qj H with ⟨c5b0,H⟩|⟨c5,H⟩
     ·rcases qj H with ⟨c6b0,H⟩|⟨c6,H⟩
      ·by_cases c7:(!(((zBT l0 x5_1).f0) == ((zBT l1 x5_1).f0)) || (!(((zBT l0 x5_1).f1) == ((zBT l1 x5_1).f1)))) = true
       ·rw [if_pos c7] at H;have c7b0:(!(((zBT l0 x5_1).f0) == ((zBT l1 x5_1).f0)) || (!(((zBT l0 x5_1).f1) == ((zBT l1 x5_1).f1)))) = true:=c7;clear c7;obtain rfl:=Option.some.inj H;have p755:0 ≤ (x5_1:Int):=qd;have q755:x5_1 < (l0.length:Int):=qd;obtain ⟨ad755,e755,hx755_0,hx755_1⟩:=zBZ HR0.out x5_1 p755 q755;cases e755;replace p755:=qT p755;replace q755:=qT q755;have p756:0 ≤ (x5_1:Int):=qd;have q756:x5_1 < (l1.length:Int):=qd;obtain ⟨ad756,e756,hx756_0,hx756_1⟩:=zBZ HR1.out x5_1 p756 q756;cases e756;replace p756:=qT p756;replace q756:=qT q756;go_wp2;(repeat (go_quiet (fail);try go_wp2));go_ret;exact ⟨qr,qt⟩
       ·rw [if_neg c7] at H;have c7b0:(!(((zBT l0 x5_1).f0) == ((zBT l1 x5_1).f0)) || (!(((zBT l0 x5_1).f1) == ((zBT l1 x5_1).f1)))) = false:=by simpa using c7
        clear c7;have H':=zA H;clear H;have p755:0 ≤ (x5_1:Int):=qd;have q755:x5_1 < (l0.length:Int):=qd;obtain ⟨ad755,e755,hx755_0,hx755_1⟩:=zBZ HR0.out x5_1 p755 q755;cases e755;replace p755:=qT p755;replace q755:=qT q755;have p756:0 ≤ (x5_1:Int):=qd;have q756:x5_1 < (l1.length:Int):=qd;obtain ⟨ad756,e756,hx756_0,hx756_1⟩:=zBZ HR1.out x5_1 p756 q756;cases e756;replace p756:=qT p756;replace q756:=qT q756;go_wp2;(repeat (go_quiet (fail);try go_wp2));go_roundg k1
        case measure=>have:=HK1.out;omega
        case rel=>exact ⟨(wrap64 (x5_1 + 1)),qr,H',⟨qo HK1⟩,qt⟩
      ·nomatch H
     ·nomatch H
    ·obtain rfl:=Option.some.inj H;go_wp2;(repeat (go_quiet (fail);try go_wp2));go_ret;exact ⟨qr,qt⟩
 ·rw [if_neg c3] at H;have c3b0:((l0.length:Int) == (l1.length:Int)) = false:=beq_eq_false_iff_ne.mpr c3;have c3b1:((l0.length:Int) != (l1.length:Int)) = true:=bne_iff_ne.mpr c3;have c3b2:(l0.length == l1.length) = false:=by first|simpa using c3|(simp at c3 ⊢;omega)
  obtain rfl:=Option.some.inj H;go_enter Tryz.func9,Tryz.ntmps9;go_wp2;(repeat (go_quiet (fail);try go_wp2));go_ret;exact ⟨qr,qt⟩
end Go.Proofs.YtgdijfhdpgdanaaGreatDoor.B
namespace Go.Proofs.YtgdijfhdpgdanaaGreatDoor.B
open Go.Proofs.YtgdijfhdpgdanaaGreatDoor.Al
open Option renaming bind_eq_some_iff → zb
open List renaming setIfInBounds_toArray → zX, set_cons_zero → zY, set_cons_succ → zZ
open Go.Proofs.YtgdijfhdpgdanaaGreatDoorW.PrintWords renaming below_drew1 → zE, below_step → zH, blk_cell → zI, blk_frozen → zJ, blk_drew → zM, gate_callee → zU, gate_dst → zV
open Go.Proofs.YtgdijfhdpgdanaaGreatDoor.Sq Go.RowKit Go.Proofs.YtgdijfhdpgdanaaGreatDoorW.PrintWords Go.Proofs.YtgdijfhdpgdanaaGreatDoorW.PrintLast Go.Proofs.YtgdijfhdpgdanaaGreatDoorW.PrintMore
attribute [local go_sem] max2_int min2_int max_two min_two max_three min_three max_four min_four
set_option linter.unusedVariables false
set_option linter.unusedSimpArgs false
def zAn.f (k:Nat) (l0_0:List (S113)) (l0_1:List (S102)) (l0_2:List (List (S96))) (l0_3:List (S96)) (a1_0:Int) (a1_1:Int):Option (Bool):=(zAv.f k l0_0 l0_1 l0_2 l0_3).bind fun bt759=>((zAm.f k bt759.1 bt759.2.1 bt759.2.2.1 bt759.2.2.2 a1_0 a1_1).bind fun bt771=>((zAF.f k l0_0 l0_1 l0_2 l0_3 a1_0 a1_1).bind fun bt775=>(if bt771.2 = bt775.2 then ((zAk.f k bt771.1 bt775.1).bind fun t779=>(some t779)) else (some false))))
theorem zAn.mono:∀ a0 a1 a2 a3 a4 a5 k,LeO (zAn.f k a0 a1 a2 a3 a4 a5) (zAn.f (k + 1) a0 a1 a2 a3 a4 a5):=by
 intro a0 a1 a2 a3 a4 a5 k;unfold zAn.f;exact qM (And.intro @zAk.mono (And.intro @zAv.mono (And.intro @zAF.mono @zAm.mono)))
def zAn.T1:Bool × List (List Nat × List Nat):=(true,[([],[]),([0],[0]),([],[]),([1,2,1],[1,2]),([3],[3]),([4],[4]),([4],[4]),([5,3,0,1,2,3,4,5],[5]),([6,7,0,1,2,3,4,5,6,7],[6])])
def zAn.B1:List Nat:=[0,1,0,7,15,31,31,63,255]
theorem zAn.tab1:rtab .any (opsOf Tryz.f3 1) = zAn.T1:=by kernel_rfl
theorem zAn.bits1:waitsOk zAn.T1.2 zAn.B1 = true:=by kernel_rfl
set_option maxHeartbeats 8000000 in
set_option maxRecDepth 100000 in
theorem zAn.calls (k:Nat) (A0_0:Option Addr) (c0_0:Nat) (l0_0:List (S113)) (A0_1:Option Addr) (c0_1:Nat) (l0_1:List (S102)) (A0_2:Option Addr) (c0_2:Nat) (l0_2:List (List (S96))) (A0_3:Option Addr) (c0_3:Nat) (l0_3:List (S96)) (a1_0:Int) (a1_1:Int) (r:Bool) (w:World) (hr0_0:Kd.C k113 w A0_0 l0_0.length l0_0) (hc0_0:l0_0.length ≤ c0_0) (hr0_1:Kd.C k102 w A0_1 l0_1.length l0_1) (hc0_1:l0_1.length ≤ c0_1) (hr0_2:Kd.C (Kd.slice 96 k96) w A0_2 l0_2.length l0_2) (hc0_2:l0_2.length ≤ c0_2) (hr0_3:Kd.C k96 w A0_3 l0_3.length l0_3) (hc0_3:l0_3.length ≤ c0_3) (hL:LaidG w) (h:zAn.f k l0_0 l0_1 l0_2 l0_3 a1_0 a1_1 = some r) :
  Calls Tryz.prog 3 #[.agg #[.slice A0_0 l0_0.length c0_0,.slice A0_1 l0_1.length c0_1,.slice A0_2 l0_2.length c0_2,.slice A0_3 l0_3.length c0_3],.agg #[.int .i64 a1_0,.int .i64 a1_1]] w fun e w'=>e = .returned (.bool r)∧Below w.heap.size w w':=by
 have HLd:=zA hL;clear hL;have hu29:=Tryz.underlying29;have hu31:=Tryz.underlying31;have HR0_0:=zA hr0_0;have HC0_0:=zA hc0_0;clear hr0_0 hc0_0;have HR0_1:=zA hr0_1;have HC0_1:=zA hc0_1;clear hr0_1 hc0_1;have HR0_2:=zA hr0_2;have HC0_2:=zA hc0_2;clear hr0_2 hc0_2;have HR0_3:=zA hr0_3;have HC0_3:=zA hc0_3;clear hr0_3 hc0_3;have HB:=zA (Below.refl w.heap.size w);have H:((zAv.f k l0_0 l0_1 l0_2 l0_3).bind fun bt759=>((zAm.f k bt759.1 bt759.2.1 bt759.2.2.1 bt759.2.2.2 a1_0 a1_1).bind fun bt771=>((zAF.f k l0_0 l0_1 l0_2 l0_3 a1_0 a1_1).bind fun bt775=>(if bt771.2 = bt775.2 then ((zAk.f k bt771.1 bt775.1).bind fun t779=>(some t779)) else (some false))))) = some r:=h;clear h;replace H:=zb.mp H;obtain ⟨⟨t759,t762,t765,t768⟩,A30,H⟩:=H;(try dsimp only at H);have A3:=zA A30;clear A30;replace H:=zb.mp H;obtain ⟨⟨t771,t774⟩,A40,H⟩:=H;(try dsimp only at H);have A4:=zA A40;clear A40;replace H:=zb.mp H;obtain ⟨⟨t775,t778⟩,A50,H⟩:=H;(try dsimp only at H);have A5:=zA A50;clear A50;rcases qE H with ⟨c6b0,c6b1,H⟩|⟨c6,c6b0,c6b1,H⟩
 ·replace H:=zb.mp H;obtain ⟨t779,A70,H⟩:=H;(try dsimp only at H);have A7:=zA A70;clear A70;obtain rfl:=Option.some.inj H;go_enter Tryz.func3,Tryz.ntmps3;(try go_wp2_with (first|((with_reducible refine zV (N:=2) rfl ?_);refine bQ 2 (cs:=#[.slice A0_0 l0_0.length c0_0,.slice A0_1 l0_1.length c0_1,.slice A0_2 l0_2.length c0_2,.slice A0_3 l0_3.length c0_3]) (t:=29) ?_;intro gb757 hg w8 BK757 hb;have GW757:=zA (qg hg);replace HB:=zA (zH qb hb);clear hb hg)|((with_reducible refine zV (N:=3) rfl ?_);refine bQ 3 (cs:=#[.int .i64 a1_0,.int .i64 a1_1]) (t:=31) ?_;intro gb758 hg w9 BK758 hb;have GW758:=zA (qg hg);replace HB:=zA (zH qb hb);have NB757_758:=zA (qn hg BK757);have NB758_757:=zA ((qn hg BK757).symm);replace BK757:=qK BK757 hb;clear hb hg)));replace BK757:=zA (zM BK757.out);replace BK758:=zA (zM BK758.out);replace HB:=zA (zE HB.out);refine start_ (n:=9) (S:=fun w'=>w'.cell? ⟨gb757,0,none⟩ = some (.slice A0_0 l0_0.length c0_0)∧w'.cell? ⟨gb757,1,none⟩ = some (.slice A0_1 l0_1.length c0_1)∧w'.cell? ⟨gb757,2,none⟩ = some (.slice A0_2 l0_2.length c0_2)∧w'.cell? ⟨gb757,3,none⟩ = some (.slice A0_3 l0_3.length c0_3)∧w'.cell? ⟨gb758,0,none⟩ = some (.int .i64 a1_0)∧w'.cell? ⟨gb758,1,none⟩ = some (.int .i64 a1_1)) (ds:=[]) #[false,false,false,false,false,false,false,false,false] (by kernel_rfl) rfl rfl ⟨(zI BK757.out 0).trans rfl,(zI BK757.out 1).trans rfl,(zI BK757.out 2).trans rfl,(zI BK757.out 3).trans rfl,(zI BK758.out 0).trans rfl,(zI BK758.out 1).trans rfl⟩ (fun hHeld=>?_);refine with_tabW zAn.tab1 zAn.bits1 (fun HT_ HW_=>?_);generalize w9.drew = w10 at BK757 BK758 HB hHeld ⊢;refine tq 0 (some 10) HT_ HW_ hHeld ?_;refine tq 2 (some 12) HT_ HW_ hHeld ?_;refine oq 1 (some 11) HT_ (fun K hK=>?_);refine gq Tryz.func7 #[.agg #[.slice A0_0 l0_0.length c0_0,.slice A0_1 l0_1.length c0_1,.slice A0_2 l0_2.length c0_2,.slice A0_3 l0_3.length c0_3]] ?_;(with_reducible refine (zAv.calls k _ _ l0_0 _ _ l0_1 _ _ l0_2 _ _ l0_3 t759 t762 t765 t768 _ (qc HR0_0) HC0_0.out (qc HR0_1) HC0_1.out (qc HR0_2) HC0_2.out (qc HR0_3) HC0_3.out A3.out).mono ?_);rintro e w11 ⟨v760,v763,v766,v769,rfl,ho0,ho1,ho2,ho3,hb⟩;refine ⟨_,rfl,?_⟩;have HO761:=zA (Kd.R_lower ho0 qs);have HO764:=zA (Kd.R_lower ho1 qs);have HO767:=zA (Kd.S_lower ho2 qs);have HO770:=zA (Kd.R_lower ho3 qs);replace BK757:=qK BK757 hb;replace BK758:=qK BK758 hb;replace HB:=zA (zH qb hb);(try clear hb);(try clear hb2);(try clear hk);(try clear hi);(try clear ho0);(try clear ho1);(try clear ho2);(try clear ho3);obtain ⟨Ao12,co12,eo12⟩:=Kd.R_slice HO761.out;(first|subst eo12|(injection eo12 with f1_ f2_ f3_;have f4_:=f1_.symm;have f5_:=f3_.symm;clear f1_ f2_ f3_;subst f4_;subst f5_));obtain ⟨Ao13,co13,eo13⟩:=Kd.R_slice HO764.out;(first|subst eo13|(injection eo13 with f1_ f2_ f3_;have f4_:=f1_.symm;have f5_:=f3_.symm;clear f1_ f2_ f3_;subst f4_;subst f5_));obtain ⟨Ao14,co14,eo14⟩:=Kd.S_slice HO767.out;(first|subst eo14|(injection eo14 with f1_ f2_ f3_;have f4_:=f1_.symm;have f5_:=f3_.symm;clear f1_ f2_ f3_;subst f4_;subst f5_));obtain ⟨Ao15,co15,eo15⟩:=Kd.R_slice HO770.out;(first|subst eo15|(injection eo15 with f1_ f2_ f3_;have f4_:=f1_.symm;have f5_:=f3_.symm;clear f1_ f2_ f3_;subst f4_;subst f5_));refine hK.out _ _ ⟨(zI BK757.out 0).trans rfl,(zI BK757.out 1).trans rfl,(zI BK757.out 2).trans rfl,(zI BK757.out 3).trans rfl,(zI BK758.out 0).trans rfl,(zI BK758.out 1).trans rfl⟩ (fun hHeld=>?_);clear hK K;refine norm_ (a':=?_) ?_ ?_;rotate_left
  ·show Act.put _ (some 11) _ = _;simp only [Act.put,zX,zY,zZ,i64_w,i32_w];rfl
  refine oq 3 (some 13) HT_ (fun K hK=>?_);refine gq Tryz.func6 #[.agg #[.slice Ao12 t759.length co12,.slice Ao13 t762.length co13,.slice Ao14 t765.length co14,.slice Ao15 t768.length co15],.agg #[.int .i64 a1_0,.int .i64 a1_1]] ?_;(with_reducible refine (zAm.calls k _ _ t759 _ _ t762 _ _ t765 _ _ t768 a1_0 a1_1 t771 t774 _ (qu (Kd.R_reads' HO761.out).2.2) ((Kd.R_reads' HO761.out).2.1) (qu (Kd.R_reads' HO764.out).2.2) ((Kd.R_reads' HO764.out).2.1) (qu (Kd.S_reads' HO767.out).2.2) ((Kd.S_reads' HO767.out).2.1) (qu (Kd.R_reads' HO770.out).2.2) ((Kd.R_reads' HO770.out).2.1) qD A4.out).mono ?_);rintro e w16 ⟨v772,rfl,ho0,hb⟩;refine ⟨_,rfl,?_⟩;replace HO761:=zA (Kd.R_below (qR HO761) hb);replace HO764:=zA (Kd.R_below (qR HO764) hb);replace HO767:=zA (Kd.S_below (qS HO767) hb);replace HO770:=zA (Kd.R_below (qR HO770) hb);have HO773:=zA (Kd.R_lower (Kd.R_newB ho0 (g:=gb758) (o:=.cells #[.int .i64 a1_0,.int .i64 a1_1] 31 (0,0)) (qk BK758)) qs);replace BK757:=qK BK757 hb;replace BK758:=qK BK758 hb;replace HB:=zA (zH qb hb);(try clear hb);(try clear hb2);(try clear hk);(try clear hi);(try clear ho0);refine hK.out _ _ ⟨(zI BK757.out 0).trans rfl,(zI BK757.out 1).trans rfl,(zI BK757.out 2).trans rfl,(zI BK757.out 3).trans rfl,(zI BK758.out 0).trans rfl,(zI BK758.out 1).trans rfl⟩ (fun hHeld=>?_);clear hK K;refine norm_ (a':=?_) ?_ ?_;rotate_left
  ·show Act.put _ (some 13) _ = _;simp only [Act.put,zX,zY,zZ,i64_w,i32_w];rfl
  refine pq 4 (some 9) HT_ ?_;refine pq 5 (some 14) HT_ ?_;refine pq 6 (some 15) HT_ ?_;refine pq 7 (some 5) HT_ ?_;refine pq 8 (some 6) HT_ ?_;refine done_ (done_of HT_.out (by kernel_rfl)) ?_;have hnb17:=NB757_758.out;have hnc17:=NB758_757.out;obtain ⟨hcz18_0,hcz18_1,hcz18_2,hcz18_3⟩:=q4 BK757;have hfz18_0:=zJ BK757.out;obtain ⟨hcz19_0,hcz19_1⟩:=q2 BK758;have hfz19_0:=zJ BK758.out;(try go_wp2_with (first|((with_reducible refine zU (f:=8) rfl ?_);refine gL (some 19) Tryz.func8 #[.agg #[.slice A0_0 l0_0.length c0_0,.slice A0_1 l0_1.length c0_1,.slice A0_2 l0_2.length c0_2,.slice A0_3 l0_3.length c0_3],.agg #[.int .i64 a1_0,.int .i64 a1_1]] ?_;(with_reducible refine (zAF.calls k _ _ l0_0 _ _ l0_1 _ _ l0_2 _ _ l0_3 a1_0 a1_1 t775 t778 _ (qc HR0_0) HC0_0.out (qc HR0_1) HC0_1.out (qc HR0_2) HC0_2.out (qc HR0_3) HC0_3.out A5.out).mono ?_);rintro e w20 ⟨v776,rfl,ho0,hb⟩;refine ⟨_,rfl,?_⟩;replace HO761:=zA (Kd.R_below (qR HO761) hb);replace HO764:=zA (Kd.R_below (qR HO764) hb);replace HO767:=zA (Kd.S_below (qS HO767) hb);replace HO770:=zA (Kd.R_below (qR HO770) hb);have HO777:=zA (Kd.R_lower (Kd.R_newB (Kd.R_new' ho0 (Kd.R_lt (qR HO773))) (g:=gb758) (o:=.cells #[.int .i64 a1_0,.int .i64 a1_1] 31 (0,0)) (qk BK758)) qs);replace HO773:=zA (Kd.R_elder' (qR HO773) (Kd.R_base ho0) hb);replace BK757:=qK BK757 hb;replace BK758:=qK BK758 hb;replace HB:=zA (zH qb hb);clear ho0 hb;obtain ⟨Ao21,co21,eo21⟩:=Kd.R_slice HO773.out;subst eo21;obtain ⟨Ao22,co22,eo22⟩:=Kd.R_slice HO777.out;subst eo22)|(go_at_call 9;(with_reducible refine (zAk.calls k _ _ t771 _ _ t775 t779 _ (qu (Kd.R_reads' HO773.out).2.2) ((Kd.R_reads' HO773.out).2.1) (qu (Kd.R_reads' HO777.out).2.2) ((Kd.R_reads' HO777.out).2.1) A7.out).mono ?_);rintro e w' ⟨rfl,⟨nd,rfl⟩⟩)));go_ret;exact ⟨qe,qb⟩
 ·obtain rfl:=Option.some.inj H;go_enter Tryz.func3,Tryz.ntmps3;(try go_wp2_with (first|((with_reducible refine zV (N:=2) rfl ?_);refine bQ 2 (cs:=#[.slice A0_0 l0_0.length c0_0,.slice A0_1 l0_1.length c0_1,.slice A0_2 l0_2.length c0_2,.slice A0_3 l0_3.length c0_3]) (t:=29) ?_;intro gb757 hg w23 BK757 hb;have GW757:=zA (qg hg);replace HB:=zA (zH qb hb);clear hb hg)|((with_reducible refine zV (N:=3) rfl ?_);refine bQ 3 (cs:=#[.int .i64 a1_0,.int .i64 a1_1]) (t:=31) ?_;intro gb758 hg w24 BK758 hb;have GW758:=zA (qg hg);replace HB:=zA (zH qb hb);have NB757_758:=zA (qn hg BK757);have NB758_757:=zA ((qn hg BK757).symm);replace BK757:=qK BK757 hb;clear hb hg)));replace BK757:=zA (zM BK757.out);replace BK758:=zA (zM BK758.out);replace HB:=zA (zE HB.out);refine start_ (n:=9) (S:=fun w'=>w'.cell? ⟨gb757,0,none⟩ = some (.slice A0_0 l0_0.length c0_0)∧w'.cell? ⟨gb757,1,none⟩ = some (.slice A0_1 l0_1.length c0_1)∧w'.cell? ⟨gb757,2,none⟩ = some (.slice A0_2 l0_2.length c0_2)∧w'.cell? ⟨gb757,3,none⟩ = some (.slice A0_3 l0_3.length c0_3)∧w'.cell? ⟨gb758,0,none⟩ = some (.int .i64 a1_0)∧w'.cell? ⟨gb758,1,none⟩ = some (.int .i64 a1_1)) (ds:=[]) #[false,false,false,false,false,false,false,false,false] (by kernel_rfl) rfl rfl ⟨(zI BK757.out 0).trans rfl,(zI BK757.out 1).trans rfl,(zI BK757.out 2).trans rfl,(zI BK757.out 3).trans rfl,(zI BK758.out 0).trans rfl,(zI BK758.out 1).trans rfl⟩ (fun hHeld=>?_);refine with_tabW zAn.tab1 zAn.bits1 (fun HT_ HW_=>?_);generalize w24.drew = w25 at BK757 BK758 HB hHeld ⊢;refine tq 0 (some 10) HT_ HW_ hHeld ?_;refine tq 2 (some 12) HT_ HW_ hHeld ?_;refine oq 1 (some 11) HT_ (fun K hK=>?_);refine gq Tryz.func7 #[.agg #[.slice A0_0 l0_0.length c0_0,.slice A0_1 l0_1.length c0_1,.slice A0_2 l0_2.length c0_2,.slice A0_3 l0_3.length c0_3]] ?_;(with_reducible refine (zAv.calls k _ _ l0_0 _ _ l0_1 _ _ l0_2 _ _ l0_3 t759 t762 t765 t768 _ (qc HR0_0) HC0_0.out (qc HR0_1) HC0_1.out (qc HR0_2) HC0_2.out (qc HR0_3) HC0_3.out A3.out).mono ?_);rintro e w26 ⟨v760,v763,v766,v769,rfl,ho0,ho1,ho2,ho3,hb⟩;refine ⟨_,rfl,?_⟩;have HO761:=zA (Kd.R_lower ho0 qs);have HO764:=zA (Kd.R_lower ho1 qs);have HO767:=zA (Kd.S_lower ho2 qs);have HO770:=zA (Kd.R_lower ho3 qs);replace BK757:=qK BK757 hb;replace BK758:=qK BK758 hb;replace HB:=zA (zH qb hb);(try clear hb);(try clear hb2);(try clear hk);(try clear hi);(try clear ho0);(try clear ho1);(try clear ho2);(try clear ho3);obtain ⟨Ao27,co27,eo27⟩:=Kd.R_slice HO761.out;(first|subst eo27|(injection eo27 with f1_ f2_ f3_;have f4_:=f1_.symm;have f5_:=f3_.symm;clear f1_ f2_ f3_;subst f4_;subst f5_));obtain ⟨Ao28,co28,eo28⟩:=Kd.R_slice HO764.out;(first|subst eo28|(injection eo28 with f1_ f2_ f3_;have f4_:=f1_.symm;have f5_:=f3_.symm;clear f1_ f2_ f3_;subst f4_;subst f5_));obtain ⟨Ao29,co29,eo29⟩:=Kd.S_slice HO767.out;(first|subst eo29|(injection eo29 with f1_ f2_ f3_;have f4_:=f1_.symm;have f5_:=f3_.symm;clear f1_ f2_ f3_;subst f4_;subst f5_));obtain ⟨Ao30,co30,eo30⟩:=Kd.R_slice HO770.out;(first|subst eo30|(injection eo30 with f1_ f2_ f3_;have f4_:=f1_.symm;have f5_:=f3_.symm;clear f1_ f2_ f3_;subst f4_;subst f5_));refine hK.out _ _ ⟨(zI BK757.out 0).trans rfl,(zI BK757.out 1).trans rfl,(zI BK757.out 2).trans rfl,(zI BK757.out 3).trans rfl,(zI BK758.out 0).trans rfl,(zI BK758.out 1).trans rfl⟩ (fun hHeld=>?_);clear hK K;refine norm_ (a':=?_) ?_ ?_;rotate_left
  ·show Act.put _ (some 11) _ = _;simp only [Act.put,zX,zY,zZ,i64_w,i32_w];rfl
  refine oq 3 (some 13) HT_ (fun K hK=>?_);refine gq Tryz.func6 #[.agg #[.slice Ao27 t759.length co27,.slice Ao28 t762.length co28,.slice Ao29 t765.length co29,.slice Ao30 t768.length co30],.agg #[.int .i64 a1_0,.int .i64 a1_1]] ?_;(with_reducible refine (zAm.calls k _ _ t759 _ _ t762 _ _ t765 _ _ t768 a1_0 a1_1 t771 t774 _ (qu (Kd.R_reads' HO761.out).2.2) ((Kd.R_reads' HO761.out).2.1) (qu (Kd.R_reads' HO764.out).2.2) ((Kd.R_reads' HO764.out).2.1) (qu (Kd.S_reads' HO767.out).2.2) ((Kd.S_reads' HO767.out).2.1) (qu (Kd.R_reads' HO770.out).2.2) ((Kd.R_reads' HO770.out).2.1) qD A4.out).mono ?_);rintro e w31 ⟨v772,rfl,ho0,hb⟩;refine ⟨_,rfl,?_⟩;replace HO761:=zA (Kd.R_below (qR HO761) hb);replace HO764:=zA (Kd.R_below (qR HO764) hb);replace HO767:=zA (Kd.S_below (qS HO767) hb);replace HO770:=zA (Kd.R_below (qR HO770) hb);have HO773:=zA (Kd.R_lower (Kd.R_newB ho0 (g:=gb758) (o:=.cells #[.int .i64 a1_0,.int .i64 a1_1] 31 (0,0)) (qk BK758)) qs);replace BK757:=qK BK757 hb;replace BK758:=qK BK758 hb;replace HB:=zA (zH qb hb);(try clear hb);(try clear hb2);(try clear hk);(try clear hi);(try clear ho0);refine hK.out _ _ ⟨(zI BK757.out 0).trans rfl,(zI BK757.out 1).trans rfl,(zI BK757.out 2).trans rfl,(zI BK757.out 3).trans rfl,(zI BK758.out 0).trans rfl,(zI BK758.out 1).trans rfl⟩ (fun hHeld=>?_);clear hK K;refine norm_ (a':=?_) ?_ ?_;rotate_left
  ·show Act.put _ (some 13) _ = _;simp only [Act.put,zX,zY,zZ,i64_w,i32_w];rfl
  refine pq 4 (some 9) HT_ ?_;refine pq 5 (some 14) HT_ ?_;refine pq 6 (some 15) HT_ ?_;refine pq 7 (some 5) HT_ ?_;refine pq 8 (some 6) HT_ ?_;refine done_ (done_of HT_.out (by kernel_rfl)) ?_;have hnb32:=NB757_758.out;have hnc32:=NB758_757.out;obtain ⟨hcz33_0,hcz33_1,hcz33_2,hcz33_3⟩:=q4 BK757;have hfz33_0:=zJ BK757.out;obtain ⟨hcz34_0,hcz34_1⟩:=q2 BK758;have hfz34_0:=zJ BK758.out;(try go_wp2_with (first|((with_reducible refine zU (f:=8) rfl ?_);refine gL (some 19) Tryz.func8 #[.agg #[.slice A0_0 l0_0.length c0_0,.slice A0_1 l0_1.length c0_1,.slice A0_2 l0_2.length c0_2,.slice A0_3 l0_3.length c0_3],.agg #[.int .i64 a1_0,.int .i64 a1_1]] ?_;(with_reducible refine (zAF.calls k _ _ l0_0 _ _ l0_1 _ _ l0_2 _ _ l0_3 a1_0 a1_1 t775 t778 _ (qc HR0_0) HC0_0.out (qc HR0_1) HC0_1.out (qc HR0_2) HC0_2.out (qc HR0_3) HC0_3.out A5.out).mono ?_);rintro e w35 ⟨v776,rfl,ho0,hb⟩;refine ⟨_,rfl,?_⟩;replace HO761:=zA (Kd.R_below (qR HO761) hb);replace HO764:=zA (Kd.R_below (qR HO764) hb);replace HO767:=zA (Kd.S_below (qS HO767) hb);replace HO770:=zA (Kd.R_below (qR HO770) hb);have HO777:=zA (Kd.R_lower (Kd.R_newB (Kd.R_new' ho0 (Kd.R_lt (qR HO773))) (g:=gb758) (o:=.cells #[.int .i64 a1_0,.int .i64 a1_1] 31 (0,0)) (qk BK758)) qs);replace HO773:=zA (Kd.R_elder' (qR HO773) (Kd.R_base ho0) hb);replace BK757:=qK BK757 hb;replace BK758:=qK BK758 hb;replace HB:=zA (zH qb hb);clear ho0 hb)));go_ret;exact ⟨qe,qb⟩
end Go.Proofs.YtgdijfhdpgdanaaGreatDoor.B
