import Derived.Test.YtgdijfhdpgdanaaGreatDoorKProductBehindsG32
namespace Go.Proofs.YtgdijfhdpgdanaaGreatDoor.B
open Go.Proofs.YtgdijfhdpgdanaaGreatDoor.Al
open Option renaming bind_eq_some_iff → zb
open Go.Proofs.YtgdijfhdpgdanaaGreatDoorW.PrintWords renaming below_step → zH, blk_frozen → zJ, gate_callee → zU, gate_dst → zV
open Go.Proofs.YtgdijfhdpgdanaaGreatDoor.Sq Go.RowKit Go.Proofs.YtgdijfhdpgdanaaGreatDoorW.PrintWords Go.Proofs.YtgdijfhdpgdanaaGreatDoorW.PrintLast Go.Proofs.YtgdijfhdpgdanaaGreatDoorW.PrintMore
attribute [local go_sem] max2_int min2_int max_two min_two max_three min_three max_four min_four
set_option linter.unusedVariables false
set_option linter.unusedSimpArgs false
mutual
def zAm.l0:Nat → List Bool → List (S31) → List Int → Int → Int → List (S113) → List (S102) → List (List (S96)) → List (S96) → Int → Int → Option ((List (S31)) × Int)
 | 0,_,_,_,_,_,_,_,_,_,_,_=>none
 | k + 1,x7,x11,x46,x47,x48,x388000,x388001,x388002,x388003,x389000,x389001=>if x48 < x47 then (if 0 ≤ x48 then (if x48 < (x46.length:Int) then ((zAx.f k x388000 x388001 x388002 (rd x46 x48)).bind fun bt400=>((zA4.f k x388000 x388001 x388002 x388003).bind fun t404=>(zAm.l1 k x7 x11 (rd x46 x48) bt400.1 x46 x47 x48 t404 0 x388000 x388001 x388002 x388003 x389000 x389001))) else (none)) else (none)) else (some (x11,0))
def zAm.l1:Nat → List Bool → List (S31) → Int → List Bool → List Int → Int → Int → Int → Int → List (S113) → List (S102) → List (List (S96)) → List (S96) → Int → Int → Option ((List (S31)) × Int)
 | 0,_,_,_,_,_,_,_,_,_,_,_,_,_,_,_=>none
 | k + 1,x7,x11,x13,x14,x46,x47,x48,x62,x63,x388000,x388001,x388002,x388003,x389000,x389001=>if x63 < x62 then ((zAl.f k x388003 x7 x389001 x14 x63).bind fun bt405=>(if bt405.1 = true then (if x11.length < 8796093022208 then (zAm.l1 k x7 (x11 ++ [(⟨x13,x63⟩:S31)]) x13 x14 x46 x47 x48 x62 (wrap64 (x63 + 1)) x388000 x388001 x388002 x388003 x389000 x389001) else (none)) else (zAm.l1 k x7 x11 x13 x14 x46 x47 x48 x62 (wrap64 (x63 + 1)) x388000 x388001 x388002 x388003 x389000 x389001))) else (zAm.l0 k x7 x11 x46 x47 (wrap64 (x48 + 1)) x388000 x388001 x388002 x388003 x389000 x389001)
end
def zAm.f (k:Nat) (l0_0:List (S113)) (l0_1:List (S102)) (l0_2:List (List (S96))) (l0_3:List (S96)) (a1_0:Int) (a1_1:Int):Option ((List (S31)) × Int):=(zA7.f k l0_0 l0_1 l0_2 l0_3).bind fun t389=>(if t389 = 0 then ((zAz.f k l0_0 l0_1 l0_2 l0_3 a1_0 a1_1).bind fun t390=>(if t390 = true then ((zAx.f k l0_0 l0_1 l0_2 a1_0).bind fun bt391=>((zBL.f k l0_0 l0_1 a1_0).bind fun bt395=>(zAm.l0 k bt391.1 ([]:List (S31)) bt395.1 (bt395.1.length:Int) 0 l0_0 l0_1 l0_2 l0_3 a1_0 a1_1))) else (some (([]:List (S31)),9)))) else (some (([]:List (S31)),t389)))
theorem zAm.mono_l:∀ k,(∀ y0 y1 y2 y3 y4 y5 y6 y7 y8 y9 y10,LeO (zAm.l0 k y0 y1 y2 y3 y4 y5 y6 y7 y8 y9 y10) (zAm.l0 (k + 1) y0 y1 y2 y3 y4 y5 y6 y7 y8 y9 y10))∧(∀ y0 y1 y2 y3 y4 y5 y6 y7 y8 y9 y10 y11 y12 y13 y14,LeO (zAm.l1 k y0 y1 y2 y3 y4 y5 y6 y7 y8 y9 y10 y11 y12 y13 y14) (zAm.l1 (k + 1) y0 y1 y2 y3 y4 y5 y6 y7 y8 y9 y10 y11 y12 y13 y14))
 | 0=>⟨fun _ _ _ _ _ _ _ _ _ _ _ r h=>by simp [zAm.l0] at h,fun _ _ _ _ _ _ _ _ _ _ _ _ _ _ _ r h=>by simp [zAm.l1] at h⟩
 | k + 1=>by
  obtain ⟨ih0,ih1⟩:=zAm.mono_l k
  refine ⟨?_,?_⟩
  ·intro y0 y1 y2 y3 y4 y5 y6 y7 y8 y9 y10
   unfold zAm.l0
   repeat' first
   | (with_reducible exact ih0 _ _ _ _ _ _ _ _ _ _ _)
   | (with_reducible exact ih1 _ _ _ _ _ _ _ _ _ _ _ _ _ _ _)
   | (with_reducible exact zAl.mono _ _ _ _ _ _)
   | (with_reducible exact zA7.mono _ _ _ _ _)
   | (with_reducible exact zA4.mono _ _ _ _ _)
   | (with_reducible exact zAz.mono _ _ _ _ _ _ _)
   | (with_reducible exact zAx.mono _ _ _ _ _)
   | (with_reducible exact zBL.mono _ _ _ _)
   | (with_reducible exact LeO.refl _)
   | (with_reducible exact LeO.none _)
   | (with_reducible refine LeO.ite ?_ ?_)
   | (with_reducible refine LeO.bind ?_ (fun _=>?_))
   | exact ih0 _ _ _ _ _ _ _ _ _ _ _
   | exact ih1 _ _ _ _ _ _ _ _ _ _ _ _ _ _ _
   | exact zAl.mono _ _ _ _ _ _
   | exact zA7.mono _ _ _ _ _
   | exact zA4.mono _ _ _ _ _
   | exact zAz.mono _ _ _ _ _ _ _
   | exact zAx.mono _ _ _ _ _
   | exact zBL.mono _ _ _ _
   | exact LeO.none _
   | refine LeO.ite ?_ ?_
   | refine LeO.bind ?_ (fun _=>?_)
  ·intro y0 y1 y2 y3 y4 y5 y6 y7 y8 y9 y10 y11 y12 y13 y14
   unfold zAm.l1
   repeat' first
   | (with_reducible exact ih0 _ _ _ _ _ _ _ _ _ _ _)
   | (with_reducible exact ih1 _ _ _ _ _ _ _ _ _ _ _ _ _ _ _)
   | (with_reducible exact zAl.mono _ _ _ _ _ _)
   | (with_reducible exact zA7.mono _ _ _ _ _)
   | (with_reducible exact zA4.mono _ _ _ _ _)
   | (with_reducible exact zAz.mono _ _ _ _ _ _ _)
   | (with_reducible exact zAx.mono _ _ _ _ _)
   | (with_reducible exact zBL.mono _ _ _ _)
   | (with_reducible exact LeO.refl _)
   | (with_reducible exact LeO.none _)
   | (with_reducible refine LeO.ite ?_ ?_)
   | (with_reducible refine LeO.bind ?_ (fun _=>?_))
   | exact ih0 _ _ _ _ _ _ _ _ _ _ _
   | exact ih1 _ _ _ _ _ _ _ _ _ _ _ _ _ _ _
   | exact zAl.mono _ _ _ _ _ _
   | exact zA7.mono _ _ _ _ _
   | exact zA4.mono _ _ _ _ _
   | exact zAz.mono _ _ _ _ _ _ _
   | exact zAx.mono _ _ _ _ _
   | exact zBL.mono _ _ _ _
   | exact LeO.none _
   | refine LeO.ite ?_ ?_
   | refine LeO.bind ?_ (fun _=>?_)
theorem zAm.mono:∀ a0 a1 a2 a3 a4 a5 k,LeO (zAm.f k a0 a1 a2 a3 a4 a5) (zAm.f (k + 1) a0 a1 a2 a3 a4 a5):=by
 intro a0 a1 a2 a3 a4 a5 k;obtain ⟨ih0,ih1⟩:=zAm.mono_l k;unfold zAm.f;repeat' first
   | (with_reducible exact ih0 _ _ _ _ _ _ _ _ _ _ _)
   | (with_reducible exact ih1 _ _ _ _ _ _ _ _ _ _ _ _ _ _ _)
   | (with_reducible exact zAl.mono _ _ _ _ _ _)
   | (with_reducible exact zA7.mono _ _ _ _ _)
   | (with_reducible exact zA4.mono _ _ _ _ _)
   | (with_reducible exact zAz.mono _ _ _ _ _ _ _)
   | (with_reducible exact zAx.mono _ _ _ _ _)
   | (with_reducible exact zBL.mono _ _ _ _)
   | (with_reducible exact LeO.refl _)
   | (with_reducible exact LeO.none _)
   | (with_reducible refine LeO.ite ?_ ?_)
   | (with_reducible refine LeO.bind ?_ (fun _=>?_))
   | exact ih0 _ _ _ _ _ _ _ _ _ _ _
   | exact ih1 _ _ _ _ _ _ _ _ _ _ _ _ _ _ _
   | exact zAl.mono _ _ _ _ _ _
   | exact zA7.mono _ _ _ _ _
   | exact zA4.mono _ _ _ _ _
   | exact zAz.mono _ _ _ _ _ _ _
   | exact zAx.mono _ _ _ _ _
   | exact zBL.mono _ _ _ _
   | exact LeO.none _
   | refine LeO.ite ?_ ?_
   | refine LeO.bind ?_ (fun _=>?_)
set_option maxHeartbeats 8000000 in
set_option maxRecDepth 100000 in
theorem zAm.calls (k:Nat) (A0_0:Option Addr) (c0_0:Nat) (l0_0:List (S113)) (A0_1:Option Addr) (c0_1:Nat) (l0_1:List (S102)) (A0_2:Option Addr) (c0_2:Nat) (l0_2:List (List (S96))) (A0_3:Option Addr) (c0_3:Nat) (l0_3:List (S96)) (a1_0:Int) (a1_1:Int) (r1:List (S31)) (r2:Int) (w:World) (hr0_0:Kd.C k113 w A0_0 l0_0.length l0_0) (hc0_0:l0_0.length ≤ c0_0) (hr0_1:Kd.C k102 w A0_1 l0_1.length l0_1) (hc0_1:l0_1.length ≤ c0_1) (hr0_2:Kd.C (Kd.slice 96 k96) w A0_2 l0_2.length l0_2) (hc0_2:l0_2.length ≤ c0_2) (hr0_3:Kd.C k96 w A0_3 l0_3.length l0_3) (hc0_3:l0_3.length ≤ c0_3) (hL:LaidG w) (h:zAm.f k l0_0 l0_1 l0_2 l0_3 a1_0 a1_1 = some (r1,r2)) :
  Calls Tryz.prog 6 #[.agg #[.slice A0_0 l0_0.length c0_0,.slice A0_1 l0_1.length c0_1,.slice A0_2 l0_2.length c0_2,.slice A0_3 l0_3.length c0_3],.agg #[.int .i64 a1_0,.int .i64 a1_1]] w fun e w'=>∃ v0_:Value,e = .returned (.tuple #[v0_,.int .i64 r2])∧Kd.R k31 31 w' w.heap.size (fun _=>True) v0_ r1∧Below w.heap.size w w':=by
 have HLd:=zA hL;clear hL;have hu29:=Tryz.underlying29;have hu31:=Tryz.underlying31;have hu25:=Tryz.underlying25;have HR0_0:=zA hr0_0;have HC0_0:=zA hc0_0;clear hr0_0 hc0_0;have HR0_1:=zA hr0_1;have HC0_1:=zA hc0_1;clear hr0_1 hc0_1;have HR0_2:=zA hr0_2;have HC0_2:=zA hc0_2;clear hr0_2 hc0_2;have HR0_3:=zA hr0_3;have HC0_3:=zA hc0_3;clear hr0_3 hc0_3;have HB:=zA (Below.refl w.heap.size w);have H:((zA7.f k l0_0 l0_1 l0_2 l0_3).bind fun t389=>(if t389 = 0 then ((zAz.f k l0_0 l0_1 l0_2 l0_3 a1_0 a1_1).bind fun t390=>(if t390 = true then ((zAx.f k l0_0 l0_1 l0_2 a1_0).bind fun bt391=>((zBL.f k l0_0 l0_1 a1_0).bind fun bt395=>(zAm.l0 k bt391.1 ([]:List (S31)) bt395.1 (bt395.1.length:Int) 0 l0_0 l0_1 l0_2 l0_3 a1_0 a1_1))) else (some (([]:List (S31)),9)))) else (some (([]:List (S31)),t389)))) = some (r1,r2):=h;clear h;replace H:=zb.mp H;obtain ⟨t389,A30,H⟩:=H;(try dsimp only at H);have A3:=zA A30;clear A30;rcases qE H with ⟨c4b0,c4b1,H⟩|⟨c4,c4b0,c4b1,H⟩
 ·replace H:=zb.mp H;obtain ⟨t390,A50,H⟩:=H;(try dsimp only at H);have A5:=zA A50;clear A50;by_cases c6:t390 = true
  ·subst c6;rw [if_pos rfl] at H
   replace H:=zb.mp H;obtain ⟨⟨t391,t394⟩,A70,H⟩:=H;(try dsimp only at H);have A7:=zA A70;clear A70;replace H:=zb.mp H;obtain ⟨⟨t395,t398⟩,A80,H⟩:=H;(try dsimp only at H);have A8:=zA A80;clear A80;have H':=zA H;clear H;go_enter Tryz.func6,Tryz.ntmps6;go_wp2_with (first|((with_reducible refine zV (N:=2) rfl ?_);refine bQ 2 (cs:=#[.slice A0_0 l0_0.length c0_0,.slice A0_1 l0_1.length c0_1,.slice A0_2 l0_2.length c0_2,.slice A0_3 l0_3.length c0_3]) (t:=29) ?_;intro gb387 hg w9 BK387 hb;have GW387:=zA (qg hg);replace HB:=zA (zH qb hb);clear hb hg)|((with_reducible refine zV (N:=3) rfl ?_);refine bQ 3 (cs:=#[.int .i64 a1_0,.int .i64 a1_1]) (t:=31) ?_;intro gb388 hg w10 BK388 hb;have GW388:=zA (qg hg);replace HB:=zA (zH qb hb);have NB387_388:=zA (qn hg BK387);have NB388_387:=zA ((qn hg BK387).symm);replace BK387:=qK BK387 hb;clear hb hg;have hnb11:=NB387_388.out;have hnc11:=NB388_387.out;obtain ⟨hcz12_0,hcz12_1,hcz12_2,hcz12_3⟩:=q4 BK387;have hfz12_0:=zJ BK387.out)|((with_reducible refine zU (f:=17) rfl ?_);refine gL (some 20) Tryz.func17 #[.agg #[.slice A0_0 l0_0.length c0_0,.slice A0_1 l0_1.length c0_1,.slice A0_2 l0_2.length c0_2,.slice A0_3 l0_3.length c0_3]] ?_;(with_reducible refine (zA7.calls k _ _ l0_0 _ _ l0_1 _ _ l0_2 _ _ l0_3 t389 _ (qc HR0_0) HC0_0.out (qc HR0_1) HC0_1.out (qc HR0_2) HC0_2.out (qc HR0_3) HC0_3.out qD A3.out).mono ?_);rintro e w13 ⟨rfl,hb⟩;refine ⟨_,rfl,?_⟩;replace BK387:=qK BK387 hb;replace BK388:=qK BK388 hb;replace HB:=zA (zH qb hb);clear hb;obtain ⟨hcz14_0,hcz14_1,hcz14_2,hcz14_3⟩:=q4 BK387;have hfz14_0:=zJ BK387.out;obtain ⟨hcz15_0,hcz15_1⟩:=q2 BK388;have hfz15_0:=zJ BK388.out)|((with_reducible refine zU (f:=18) rfl ?_);refine gL (some 26) Tryz.func18 #[.agg #[.slice A0_0 l0_0.length c0_0,.slice A0_1 l0_1.length c0_1,.slice A0_2 l0_2.length c0_2,.slice A0_3 l0_3.length c0_3],.agg #[.int .i64 a1_0,.int .i64 a1_1]] ?_;(with_reducible refine (zAz.calls k _ _ l0_0 _ _ l0_1 _ _ l0_2 _ _ l0_3 a1_0 a1_1 true _ (qc HR0_0) HC0_0.out (qc HR0_1) HC0_1.out (qc HR0_2) HC0_2.out (qc HR0_3) HC0_3.out qD A5.out).mono ?_);rintro e w16 ⟨rfl,hb⟩;refine ⟨_,rfl,?_⟩;replace BK387:=qK BK387 hb;replace BK388:=qK BK388 hb;replace HB:=zA (zH qb hb);clear hb;obtain ⟨hcz17_0,hcz17_1,hcz17_2,hcz17_3⟩:=q4 BK387;have hfz17_0:=zJ BK387.out;obtain ⟨hcz18_0,hcz18_1⟩:=q2 BK388;have hfz18_0:=zJ BK388.out)|((with_reducible refine zU (f:=19) rfl ?_);refine gL (some 35) Tryz.func19 #[.agg #[.slice A0_0 l0_0.length c0_0,.slice A0_1 l0_1.length c0_1],.slice A0_2 l0_2.length c0_2,.int .i64 a1_0] ?_;(with_reducible refine (zAx.calls k _ _ l0_0 _ _ l0_1 _ _ l0_2 a1_0 t391 t394 _ (qc HR0_0) HC0_0.out (qc HR0_1) HC0_1.out (qc HR0_2) HC0_2.out qD A7.out).mono ?_);rintro e w19 ⟨v392,rfl,ho0,hb⟩;refine ⟨_,rfl,?_⟩;have HO393:=zA (Kd.R_lower ho0 qs);replace BK387:=qK BK387 hb;replace BK388:=qK BK388 hb;replace HB:=zA (zH qb hb);clear ho0 hb;obtain ⟨hcz20_0,hcz20_1,hcz20_2,hcz20_3⟩:=q4 BK387;have hfz20_0:=zJ BK387.out;obtain ⟨hcz21_0,hcz21_1⟩:=q2 BK388;have hfz21_0:=zJ BK388.out)|((with_reducible refine zU (f:=20) rfl ?_);refine gL (some 43) Tryz.func20 #[.agg #[.slice A0_0 l0_0.length c0_0,.slice A0_1 l0_1.length c0_1],.int .i64 a1_0] ?_;(with_reducible refine (zBL.calls k _ _ l0_0 _ _ l0_1 a1_0 t395 t398 _ (qc HR0_0) HC0_0.out (qc HR0_1) HC0_1.out qD A8.out).mono ?_);rintro e w22 ⟨v396,rfl,ho0,hb⟩;refine ⟨_,rfl,?_⟩;replace HO393:=zA (Kd.R_below (qR HO393) hb);have HO397:=zA (Kd.R_lower ho0 qs);replace BK387:=qK BK387 hb;replace BK388:=qK BK388 hb;replace HB:=zA (zH qb hb);clear ho0 hb;obtain ⟨Ao23,co23,eo23⟩:=Kd.R_slice HO397.out;subst eo23));go_loopg [11,48] k (fun kq v11 v48 w'=>∃ (x11_1:List (S31)) (x48_1:Int),v48 = .int .i64 x48_1∧Aside0 (zAm.l0 kq t391 x11_1 t395 (t395.length:Int) x48_1 l0_0 l0_1 l0_2 l0_3 a1_0 a1_1 = some (r1,r2))∧Aside0 (kq ≤ k)∧Aside0 (Kd.R Kd.bool 4 w' w.heap.size (fun _=>True) v392 t391)∧Aside0 (Kd.R k31 31 w' w.heap.size (fun k_=>k_ ≠ gb388) v11 x11_1)∧Aside0 (Kd.R (Kd.int .i64) 3 w' w.heap.size (fun _=>True) (.slice Ao23 t395.length co23) t395)∧Aside0 (w'.heap[gb387]? = some (.cells #[(.slice A0_0 l0_0.length c0_0),(.slice A0_1 l0_1.length c0_1),(.slice A0_2 l0_2.length c0_2),(.slice A0_3 l0_3.length c0_3)] 29 (0,0)))∧Aside0 (w'.heap[gb388]? = some (.cells #[.int .i64 a1_0,.int .i64 a1_1] 31 (0,0)))∧Aside0 (Below w.heap.size w w'))
   case atStart=>exact ⟨(([]:List (S31))),(0),qr,H',⟨Nat.le_refl _⟩,⟨qR HO393⟩,⟨ql⟩,⟨qR HO397⟩,⟨qk BK387⟩,⟨qk BK388⟩,⟨qb⟩⟩
   case round =>
    clear H';obtain ⟨x11_1,x48_1,rfl,HA,HK1,HO_7,HO_11,HO_46,BK387,BK388,HB⟩:=hrel;cases gk with
    | zero=>exact absurd HA.out (by simp [zAm.l0])
    | succ k1 =>
     have H:=HA.out;clear HA;simp only [zAm.l0] at H;rcases qj H with ⟨c24b0,H⟩|⟨c24b0,H⟩
     ·rcases qj H with ⟨c25b0,H⟩|⟨c25,H⟩
      ·rcases qj H with ⟨c26b0,H⟩|⟨c26,H⟩
       ·replace H:=zb.mp H;obtain ⟨⟨t400,t403⟩,A270,H⟩:=H;(try dsimp only at H);have A27:=zA A270;clear A270;replace H:=zb.mp H;obtain ⟨t404,A280,H⟩:=H;(try dsimp only at H);have A28:=zA A280;clear A280;have H':=zA H;clear H;have p399:0 ≤ (x48_1:Int):=qd;have q399:x48_1 < (t395.length:Int):=qd;(try (obtain ⟨A_,c_,e_⟩:=Kd.R_slice HO_46.out;subst e_));obtain ⟨ad399,e399,hx399_0⟩:=Kd.at_int (Kd.R_reads' HO_46.out).2.2 x48_1 p399 q399;cases e399;replace p399:=qT p399;replace q399:=qT q399;have hnb29:=NB387_388.out;have hnc29:=NB388_387.out;obtain ⟨hcz30_0,hcz30_1,hcz30_2,hcz30_3⟩:=q4 BK387;have hfz30_0:=zJ BK387.out;go_wp2_with (first|((with_reducible refine zU (f:=19) rfl ?_);refine gL (some 58) Tryz.func19 #[.agg #[.slice A0_0 l0_0.length c0_0,.slice A0_1 l0_1.length c0_1],.slice A0_2 l0_2.length c0_2,.int .i64 (rd t395 x48_1)] ?_;(with_reducible refine (zAx.calls k1 _ _ l0_0 _ _ l0_1 _ _ l0_2 (rd t395 x48_1) t400 t403 _ (qc HR0_0) HC0_0.out (qc HR0_1) HC0_1.out (qc HR0_2) HC0_2.out qD A27.out).mono ?_);rintro e w31 ⟨v401,rfl,ho0,hb⟩;refine ⟨_,rfl,?_⟩;replace HO_11:=zA (Kd.R_below (qR HO_11) hb);replace HO_46:=zA (Kd.R_below (qR HO_46) hb);have HO402:=zA (Kd.R_lower (Kd.R_new' ho0 (Kd.R_lt (qR HO_7))) qs);replace HO_7:=zA (Kd.R_elder' (qR HO_7) (Kd.R_base ho0) hb);replace BK387:=qK BK387 hb;replace BK388:=qK BK388 hb;replace HB:=zA (zH qb hb);clear ho0 hb;obtain ⟨hcz32_0,hcz32_1,hcz32_2,hcz32_3⟩:=q4 BK387;have hfz32_0:=zJ BK387.out)|((with_reducible refine zU (f:=21) rfl ?_);refine gL (some 62) Tryz.func21 #[.agg #[.slice A0_0 l0_0.length c0_0,.slice A0_1 l0_1.length c0_1,.slice A0_2 l0_2.length c0_2,.slice A0_3 l0_3.length c0_3]] ?_;(with_reducible refine (zA4.calls k1 _ _ l0_0 _ _ l0_1 _ _ l0_2 _ _ l0_3 t404 _ (qc HR0_0) HC0_0.out (qc HR0_1) HC0_1.out (qc HR0_2) HC0_2.out (qc HR0_3) HC0_3.out qD A28.out).mono ?_);rintro e w33 ⟨rfl,hb⟩;refine ⟨_,rfl,?_⟩;replace HO_7:=zA (Kd.R_below (qR HO_7) hb);replace HO_11:=zA (Kd.R_below (qR HO_11) hb);replace HO_46:=zA (Kd.R_below (qR HO_46) hb);replace HO402:=zA (Kd.R_below (qR HO402) hb);replace BK387:=qK BK387 hb;replace BK388:=qK BK388 hb;replace HB:=zA (zH qb hb);clear hb));go_loopg [11,63] k1 (fun kq v11 v63 w'=>∃ (x11_2:List (S31)) (x63_2:Int),v63 = .int .i64 x63_2∧Aside0 (zAm.l1 kq t391 x11_2 (rd t395 x48_1) t400 t395 (t395.length:Int) x48_1 t404 x63_2 l0_0 l0_1 l0_2 l0_3 a1_0 a1_1 = some (r1,r2))∧Aside0 (kq ≤ k1)∧Aside0 (Kd.R Kd.bool 4 w' w.heap.size (fun k_=>some k_ ≠ (v401:Value).ownBlock) v392 t391)∧Aside0 (Kd.R k31 31 w' w.heap.size (fun k_=>k_ ≠ gb388) v11 x11_2)∧Aside0 (Kd.R Kd.bool 4 w' w.heap.size (fun k_=>some k_ ≠ (v392:Value).ownBlock) v401 t400)∧Aside0 (Kd.R (Kd.int .i64) 3 w' w.heap.size (fun _=>True) (.slice (some ad399) t395.length co23) t395)∧Aside0 (w'.heap[gb387]? = some (.cells #[(.slice A0_0 l0_0.length c0_0),(.slice A0_1 l0_1.length c0_1),(.slice A0_2 l0_2.length c0_2),(.slice A0_3 l0_3.length c0_3)] 29 (0,0)))∧Aside0 (w'.heap[gb388]? = some (.cells #[.int .i64 a1_0,.int .i64 a1_1] 31 (0,0)))∧Aside0 (Below w.heap.size w w'))
        case atStart=>exact ⟨(x11_1),(0),qr,H',⟨Nat.le_refl _⟩,⟨by (with_reducible repeat (first|apply Kd.R_alloc|apply Kd.R_drewN|apply Kd.R_drew));exact Kd.R_mono HO_7.out (fun _ hk=>hk.2)⟩,⟨qR HO_11⟩,⟨by (with_reducible repeat (first|apply Kd.R_alloc|apply Kd.R_drewN|apply Kd.R_drew));exact Kd.R_mono HO402.out (fun _ hk=>hk.2)⟩,⟨qR HO_46⟩,⟨qk BK387⟩,⟨qk BK388⟩,⟨qb⟩⟩
        case round =>
         clear H';obtain ⟨x11_2,x63_2,rfl,HA,HK2,HO_7,HO_11,HO_14,HO_46,BK387,BK388,HB⟩:=hrel;cases gk with
         | zero=>exact absurd HA.out (by simp [zAm.l1])
         | succ k2 =>
          have H:=HA.out;clear HA;simp only [zAm.l1] at H;rcases qj H with ⟨c34b0,H⟩|⟨c34b0,H⟩
          ·replace H:=zb.mp H;obtain ⟨⟨t405,t406⟩,A350,H⟩:=H;(try dsimp only at H);have A35:=zA A350;clear A350;by_cases c36:t405 = true
           ·subst c36;rw [if_pos rfl] at H
            by_cases c37:x11_2.length < 8796093022208
            ·rw [if_pos c37] at H;have LMc37:=zA c37;clear c37;generalize hy407:(x11_2 ++ [(⟨(rd t395 x48_1),x63_2⟩:S31)]) = y407 at H;replace hy407:=hy407.symm
             have Ny407:=zA hy407;clear hy407;have H':=zA H;clear H;have hnb38:=NB387_388.out;have hnc38:=NB388_387.out;obtain ⟨hcz39_0,hcz39_1,hcz39_2,hcz39_3⟩:=q4 BK387;have hfz39_0:=zJ BK387.out;obtain ⟨hcz40_0,hcz40_1⟩:=q2 BK388;have hfz40_0:=zJ BK388.out;obtain ⟨Ao41,co41,eo41⟩:=Kd.R_slice HO_7.out;subst eo41;obtain ⟨Ao42,co42,eo42⟩:=Kd.R_slice HO_14.out;subst eo42;go_wp2_with (first|((with_reducible refine zU (f:=22) rfl ?_);refine gL (some 74) Tryz.func22 #[.slice A0_3 l0_3.length c0_3,.slice Ao41 t391.length co41,.int .i64 a1_1,.slice Ao42 t400.length co42,.int .i64 x63_2] ?_;(with_reducible refine (zAl.calls k2 _ _ l0_3 _ _ t391 a1_1 _ _ t400 x63_2 true t406 _ (qc HR0_3) HC0_3.out (qu (Kd.R_reads' HO_7.out).2.2) ((Kd.R_reads' HO_7.out).2.1) (qu (Kd.R_reads' HO_14.out).2.2) ((Kd.R_reads' HO_14.out).2.1) qD A35.out).mono ?_);rintro e w43 ⟨rfl,hb⟩;refine ⟨_,rfl,?_⟩;replace HO_7:=zA (Kd.R_below (qR HO_7) hb);replace HO_11:=zA (Kd.R_below (qR HO_11) hb);replace HO_14:=zA (Kd.R_below (qR HO_14) hb);replace HO_46:=zA (Kd.R_below (qR HO_46) hb);replace BK387:=qK BK387 hb;replace BK388:=qK BK388 hb;replace HB:=zA (zH qb hb);clear hb)|((with_reducible refine gate_builtin (b:=.append) (xs:=#[.tmp 78,.tmp 82]) rfl ?_);at_builtin;refine Kd.R_append k31 (w0:=w) w.heap.size rfl (.tmp 78) (.tmp 82) 32 31 (.agg #[(.int .i64 0),(.int .i64 0)]) 16 rfl Tryz.underlying32 info31 rfl (by decide) (by omega) u11 x11_2 (⟨(rd t395 x48_1),x63_2⟩:S31) [.int .i64 (rd t395 x48_1),.int .i64 x63_2] (fun k_=>k_ ≠ gb388) (fun _=>False) rfl rfl (k31_mkM _ _ _ (⟨(rd t395 x48_1),x63_2⟩:S31)) (fun _ hk=>hk.elim) (fun k_ hk=>Kd.freshB (g:=gb388) (o:=.cells #[.int .i64 a1_0,.int .i64 a1_1] 31 (0,0)) (qk BK388) k_ hk) (qR HO_11) qb qs (qo LMc37) ?_;intro v408 w44 ho hb hg hat;rw [← Ny407.out] at ho;replace HO_7:=zA (Kd.R_over' (qR HO_7) (Kd.R_typed (qR HO_11)) (by decide) hg);replace HO_14:=zA (Kd.R_over' (qR HO_14) (Kd.R_typed (qR HO_11)) (by decide) hg);replace HO_46:=zA (Kd.R_over' (qR HO_46) (Kd.R_typed (qR HO_11)) (by decide) hg);replace BK387:=zA (blk_grown (g:=gb387) (o:=.cells #[.slice A0_0 l0_0.length c0_0,.slice A0_1 l0_1.length c0_1,.slice A0_2 l0_2.length c0_2,.slice A0_3 l0_3.length c0_3] 29 (0,0)) (qk BK387) hg (Kd.R_ne HO_11.out BK387.out (by decide)));replace BK388:=zA (blk_grown (g:=gb388) (o:=.cells #[.int .i64 a1_0,.int .i64 a1_1] 31 (0,0)) (qk BK388) hg (Kd.R_away HO_11.out (fun _ hk=>hk)));replace HB:=zA (hb);have HO409:=zA (ho);clear HO_11;clear ho hb hg hat));go_roundg k2
             case measure=>have:=HK1.out;have:=HK2.out;omega
             case rel=>exact ⟨(y407),(wrap64 (x63_2 + 1)),qr,H',⟨qp HK1 HK2⟩,⟨qR HO_7⟩,⟨qR HO409⟩,⟨qR HO_14⟩,⟨qR HO_46⟩,⟨qk BK387⟩,⟨qk BK388⟩,⟨qb⟩⟩
            ·rw [if_neg c37] at H;nomatch H
           ·replace c36:=Bool.eq_false_iff.mpr c36;subst c36;rw [if_neg (show ¬ (false = true) by decide)] at H
            have H':=zA H;clear H;have hnb45:=NB387_388.out;have hnc45:=NB388_387.out;obtain ⟨hcz46_0,hcz46_1,hcz46_2,hcz46_3⟩:=q4 BK387;have hfz46_0:=zJ BK387.out;obtain ⟨hcz47_0,hcz47_1⟩:=q2 BK388;have hfz47_0:=zJ BK388.out;obtain ⟨Ao48,co48,eo48⟩:=Kd.R_slice HO_7.out;subst eo48;obtain ⟨Ao49,co49,eo49⟩:=Kd.R_slice HO_14.out;subst eo49;go_wp2_with (first|((with_reducible refine zU (f:=22) rfl ?_);refine gL (some 74) Tryz.func22 #[.slice A0_3 l0_3.length c0_3,.slice Ao48 t391.length co48,.int .i64 a1_1,.slice Ao49 t400.length co49,.int .i64 x63_2] ?_;(with_reducible refine (zAl.calls k2 _ _ l0_3 _ _ t391 a1_1 _ _ t400 x63_2 false t406 _ (qc HR0_3) HC0_3.out (qu (Kd.R_reads' HO_7.out).2.2) ((Kd.R_reads' HO_7.out).2.1) (qu (Kd.R_reads' HO_14.out).2.2) ((Kd.R_reads' HO_14.out).2.1) qD A35.out).mono ?_);rintro e w50 ⟨rfl,hb⟩;refine ⟨_,rfl,?_⟩;replace HO_7:=zA (Kd.R_below (qR HO_7) hb);replace HO_11:=zA (Kd.R_below (qR HO_11) hb);replace HO_14:=zA (Kd.R_below (qR HO_14) hb);replace HO_46:=zA (Kd.R_below (qR HO_46) hb);replace BK387:=qK BK387 hb;replace BK388:=qK BK388 hb;replace HB:=zA (zH qb hb);clear hb));go_roundg k2
            case measure=>have:=HK1.out;have:=HK2.out;omega
            case rel=>exact ⟨(x11_2),(wrap64 (x63_2 + 1)),qr,H',⟨qp HK1 HK2⟩,⟨qR HO_7⟩,⟨qR HO_11⟩,⟨qR HO_14⟩,⟨qR HO_46⟩,⟨qk BK387⟩,⟨qk BK388⟩,⟨qb⟩⟩
          ·have H':=zA H;clear H;go_wp2;go_roundg k2
           case measure=>have:=HK1.out;have:=HK2.out;omega
           case rel=>exact ⟨(x11_2),(wrap64 (x48_1 + 1)),qr,H',⟨qp HK1 HK2⟩,⟨by (with_reducible repeat (first|apply Kd.R_alloc|apply Kd.R_drewN|apply Kd.R_drew));exact Kd.R_mono HO_7.out (fun _ hk=>trivial)⟩,⟨qR HO_11⟩,⟨qR HO_46⟩,⟨qk BK387⟩,⟨qk BK388⟩,⟨qb⟩⟩
       ·nomatch H
      ·nomatch H
     ·obtain ⟨rfl,rfl⟩:=qP H;go_wp2;go_ret2;exact ⟨_,qe,by (with_reducible repeat (first|apply Kd.R_alloc|apply Kd.R_drewN|apply Kd.R_drew));exact Kd.R_mono HO_11.out (fun _ hk=>trivial),qb⟩
  ·replace c6:=Bool.eq_false_iff.mpr c6;subst c6;rw [if_neg (show ¬ (false = true) by decide)] at H
   obtain ⟨rfl,rfl⟩:=qP H;go_enter Tryz.func6,Tryz.ntmps6;go_wp2_with (first|((with_reducible refine zV (N:=2) rfl ?_);refine bQ 2 (cs:=#[.slice A0_0 l0_0.length c0_0,.slice A0_1 l0_1.length c0_1,.slice A0_2 l0_2.length c0_2,.slice A0_3 l0_3.length c0_3]) (t:=29) ?_;intro gb387 hg w51 BK387 hb;have GW387:=zA (qg hg);replace HB:=zA (zH qb hb);clear hb hg)|((with_reducible refine zV (N:=3) rfl ?_);refine bQ 3 (cs:=#[.int .i64 a1_0,.int .i64 a1_1]) (t:=31) ?_;intro gb388 hg w52 BK388 hb;have GW388:=zA (qg hg);replace HB:=zA (zH qb hb);have NB387_388:=zA (qn hg BK387);have NB388_387:=zA ((qn hg BK387).symm);replace BK387:=qK BK387 hb;clear hb hg;have hnb53:=NB387_388.out;have hnc53:=NB388_387.out;obtain ⟨hcz54_0,hcz54_1,hcz54_2,hcz54_3⟩:=q4 BK387;have hfz54_0:=zJ BK387.out)|((with_reducible refine zU (f:=17) rfl ?_);refine gL (some 20) Tryz.func17 #[.agg #[.slice A0_0 l0_0.length c0_0,.slice A0_1 l0_1.length c0_1,.slice A0_2 l0_2.length c0_2,.slice A0_3 l0_3.length c0_3]] ?_;(with_reducible refine (zA7.calls k _ _ l0_0 _ _ l0_1 _ _ l0_2 _ _ l0_3 t389 _ (qc HR0_0) HC0_0.out (qc HR0_1) HC0_1.out (qc HR0_2) HC0_2.out (qc HR0_3) HC0_3.out qD A3.out).mono ?_);rintro e w55 ⟨rfl,hb⟩;refine ⟨_,rfl,?_⟩;replace BK387:=qK BK387 hb;replace BK388:=qK BK388 hb;replace HB:=zA (zH qb hb);clear hb;obtain ⟨hcz56_0,hcz56_1,hcz56_2,hcz56_3⟩:=q4 BK387;have hfz56_0:=zJ BK387.out;obtain ⟨hcz57_0,hcz57_1⟩:=q2 BK388;have hfz57_0:=zJ BK388.out)|((with_reducible refine zU (f:=18) rfl ?_);refine gL (some 26) Tryz.func18 #[.agg #[.slice A0_0 l0_0.length c0_0,.slice A0_1 l0_1.length c0_1,.slice A0_2 l0_2.length c0_2,.slice A0_3 l0_3.length c0_3],.agg #[.int .i64 a1_0,.int .i64 a1_1]] ?_;(with_reducible refine (zAz.calls k _ _ l0_0 _ _ l0_1 _ _ l0_2 _ _ l0_3 a1_0 a1_1 false _ (qc HR0_0) HC0_0.out (qc HR0_1) HC0_1.out (qc HR0_2) HC0_2.out (qc HR0_3) HC0_3.out qD A5.out).mono ?_);rintro e w58 ⟨rfl,hb⟩;refine ⟨_,rfl,?_⟩;replace BK387:=qK BK387 hb;replace BK388:=qK BK388 hb;replace HB:=zA (zH qb hb);clear hb));go_ret2;exact ⟨_,qe,ql,qb⟩
 ·obtain ⟨rfl,rfl⟩:=qP H;go_enter Tryz.func6,Tryz.ntmps6;go_wp2_with (first|((with_reducible refine zV (N:=2) rfl ?_);refine bQ 2 (cs:=#[.slice A0_0 l0_0.length c0_0,.slice A0_1 l0_1.length c0_1,.slice A0_2 l0_2.length c0_2,.slice A0_3 l0_3.length c0_3]) (t:=29) ?_;intro gb387 hg w59 BK387 hb;have GW387:=zA (qg hg);replace HB:=zA (zH qb hb);clear hb hg)|((with_reducible refine zV (N:=3) rfl ?_);refine bQ 3 (cs:=#[.int .i64 a1_0,.int .i64 a1_1]) (t:=31) ?_;intro gb388 hg w60 BK388 hb;have GW388:=zA (qg hg);replace HB:=zA (zH qb hb);have NB387_388:=zA (qn hg BK387);have NB388_387:=zA ((qn hg BK387).symm);replace BK387:=qK BK387 hb;clear hb hg;have hnb61:=NB387_388.out;have hnc61:=NB388_387.out;obtain ⟨hcz62_0,hcz62_1,hcz62_2,hcz62_3⟩:=q4 BK387;have hfz62_0:=zJ BK387.out)|((with_reducible refine zU (f:=17) rfl ?_);refine gL (some 20) Tryz.func17 #[.agg #[.slice A0_0 l0_0.length c0_0,.slice A0_1 l0_1.length c0_1,.slice A0_2 l0_2.length c0_2,.slice A0_3 l0_3.length c0_3]] ?_;(with_reducible refine (zA7.calls k _ _ l0_0 _ _ l0_1 _ _ l0_2 _ _ l0_3 t389 _ (qc HR0_0) HC0_0.out (qc HR0_1) HC0_1.out (qc HR0_2) HC0_2.out (qc HR0_3) HC0_3.out qD A3.out).mono ?_);rintro e w63 ⟨rfl,hb⟩;refine ⟨_,rfl,?_⟩;replace BK387:=qK BK387 hb;replace BK388:=qK BK388 hb;replace HB:=zA (zH qb hb);clear hb));go_ret2;exact ⟨_,qe,ql,qb⟩
end Go.Proofs.YtgdijfhdpgdanaaGreatDoor.B
