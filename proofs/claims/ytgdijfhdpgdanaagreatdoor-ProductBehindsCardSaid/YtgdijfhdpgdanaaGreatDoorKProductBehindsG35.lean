import Derived.Test.YtgdijfhdpgdanaaGreatDoorKProductBehindsG34
namespace Go.Proofs.YtgdijfhdpgdanaaGreatDoor.B
open Go.Proofs.YtgdijfhdpgdanaaGreatDoor.Al
open Option renaming bind_eq_some_iff → zb
open List renaming setIfInBounds_toArray → zX, set_cons_zero → zY, set_cons_succ → zZ
open Go.Proofs.YtgdijfhdpgdanaaGreatDoorW.PrintWords renaming below_drew1 → zE, below_step → zH, blk_cell → zI, blk_frozen → zJ, blk_alloc → zK, blk_drewN → zL, blk_drew → zM, blk_put → zO, gate_dst → zV, gate_callee → zU
open Go.Proofs.YtgdijfhdpgdanaaGreatDoor.Sq Go.RowKit Go.Proofs.YtgdijfhdpgdanaaGreatDoorW.PrintWords Go.Proofs.YtgdijfhdpgdanaaGreatDoorW.PrintLast Go.Proofs.YtgdijfhdpgdanaaGreatDoorW.PrintMore
attribute [local go_sem] max2_int min2_int max_two min_two max_three min_three max_four min_four
set_option linter.unusedVariables false
set_option linter.unusedSimpArgs false
def zAv.f (k:Nat) (l0_0:List (S113)) (l0_1:List (S102)) (l0_2:List (List (S96))) (l0_3:List (S96)):Option ((List (S113)) × (List (S102)) × (List (List (S96))) × (List (S96))):=(zAV.f k l0_0 l0_1).bind fun bt446=>((zAr.f k l0_2).bind fun t452=>((zBA.f l0_3).bind fun t455=>(some (bt446.1,bt446.2,t452,t455))))
theorem zAv.mono:∀ a0 a1 a2 a3 k,LeO (zAv.f k a0 a1 a2 a3) (zAv.f (k + 1) a0 a1 a2 a3):=by
 intro a0 a1 a2 a3 k;unfold zAv.f;exact qM (And.intro @zAV.mono @zAr.mono)
def zAv.T1:Bool × List (List Nat × List Nat):=(true,[([],[]),([0],[0]),([1],[1]),([],[]),([3],[3]),([4,2],[4]),([],[]),([6],[6]),([7,5],[7]),([2,5,8],[2,5,8]),([9,8,0,1,2,3,4,5,6,7,8,9],[9])])
def zAv.B1:List Nat:=[0,1,3,0,8,31,0,64,255,511,1023]
theorem zAv.tab1:rtab .any (opsOf Tryz.f7 1) = zAv.T1:=by kernel_rfl
theorem zAv.bits1:waitsOk zAv.T1.2 zAv.B1 = true:=by kernel_rfl
set_option maxHeartbeats 8000000 in
set_option maxRecDepth 100000 in
theorem zAv.calls (k:Nat) (A0_0:Option Addr) (c0_0:Nat) (l0_0:List (S113)) (A0_1:Option Addr) (c0_1:Nat) (l0_1:List (S102)) (A0_2:Option Addr) (c0_2:Nat) (l0_2:List (List (S96))) (A0_3:Option Addr) (c0_3:Nat) (l0_3:List (S96)) (r1:List (S113)) (r2:List (S102)) (r3:List (List (S96))) (r4:List (S96)) (w:World) (hr0_0:Kd.C k113 w A0_0 l0_0.length l0_0) (hc0_0:l0_0.length ≤ c0_0) (hr0_1:Kd.C k102 w A0_1 l0_1.length l0_1) (hc0_1:l0_1.length ≤ c0_1) (hr0_2:Kd.C (Kd.slice 96 k96) w A0_2 l0_2.length l0_2) (hc0_2:l0_2.length ≤ c0_2) (hr0_3:Kd.C k96 w A0_3 l0_3.length l0_3) (hc0_3:l0_3.length ≤ c0_3) (h:zAv.f k l0_0 l0_1 l0_2 l0_3 = some (r1,r2,r3,r4)) :
  Calls Tryz.prog 7 #[.agg #[.slice A0_0 l0_0.length c0_0,.slice A0_1 l0_1.length c0_1,.slice A0_2 l0_2.length c0_2,.slice A0_3 l0_3.length c0_3]] w fun e w'=>∃ v0_ v1_ v2_ v3_:Value,e = .returned (.agg #[v0_,v1_,v2_,v3_])∧Kd.R k113 113 w' w.heap.size (fun _=>True) v0_ r1∧Kd.R k102 102 w' w.heap.size (fun k_=>some k_ ≠ (v3_:Value).ownBlock) v1_ r2∧Kd.S (Kd.slice 96 k96) 27 w' w.heap.size (fun k_=>some k_ ≠ (v3_:Value).ownBlock) v2_ r3∧Kd.R k96 96 w' w.heap.size (fun _=>True) v3_ r4∧Below w.heap.size w w':=by
 have hu29:=Tryz.underlying29;have hu25:=Tryz.underlying25;have HR0_0:=zA hr0_0;have HC0_0:=zA hc0_0;clear hr0_0 hc0_0;have HR0_1:=zA hr0_1;have HC0_1:=zA hc0_1;clear hr0_1 hc0_1;have HR0_2:=zA hr0_2;have HC0_2:=zA hc0_2;clear hr0_2 hc0_2;have HR0_3:=zA hr0_3;have HC0_3:=zA hc0_3;clear hr0_3 hc0_3;have HB:=zA (Below.refl w.heap.size w);have H:((zAV.f k l0_0 l0_1).bind fun bt446=>((zAr.f k l0_2).bind fun t452=>((zBA.f l0_3).bind fun t455=>(some (bt446.1,bt446.2,t452,t455))))) = some (r1,r2,r3,r4):=h;clear h;replace H:=zb.mp H;obtain ⟨⟨t446,t449⟩,A20,H⟩:=H;(try dsimp only at H);have A2:=zA A20;clear A20;replace H:=zb.mp H;obtain ⟨t452,A30,H⟩:=H;(try dsimp only at H);have A3:=zA A30;clear A30;replace H:=zb.mp H;obtain ⟨t455,A40,H⟩:=H;(try dsimp only at H);have A4:=zA A40;clear A40;simp only [Option.some.injEq,Prod.mk.injEq] at H;obtain ⟨rfl,rfl,rfl,rfl⟩:=H;go_enter Tryz.func7,Tryz.ntmps7;(try go_wp2_with (first|((with_reducible refine zV (N:=1) rfl ?_);refine bQ 1 (cs:=#[.slice A0_0 l0_0.length c0_0,.slice A0_1 l0_1.length c0_1,.slice A0_2 l0_2.length c0_2,.slice A0_3 l0_3.length c0_3]) (t:=29) ?_;intro gb444 hg w5 BK444 hb;have GW444:=zA (qg hg);replace HB:=zA (zH qb hb);clear hb hg)|((with_reducible refine zV (N:=2) rfl ?_);refine bQ 2 (cs:=#[.slice none 0 0,.slice none 0 0,.slice none 0 0,.slice none 0 0]) (t:=29) ?_;intro gb445 hg w6 BK445 hb;have GW445:=zA (qg hg);replace HB:=zA (zH qb hb);have NB444_445:=zA (qn hg BK444);have NB445_444:=zA ((qn hg BK444).symm);replace BK444:=qK BK444 hb;clear hb hg)));replace BK444:=zA (zM BK444.out);replace BK445:=zA (zM BK445.out);replace HB:=zA (zE HB.out);refine start_ (n:=11) (S:=fun w'=>w'.cell? ⟨gb444,0,none⟩ = some (.slice A0_0 l0_0.length c0_0)∧w'.cell? ⟨gb444,1,none⟩ = some (.slice A0_1 l0_1.length c0_1)∧w'.cell? ⟨gb444,2,none⟩ = some (.slice A0_2 l0_2.length c0_2)∧w'.cell? ⟨gb444,3,none⟩ = some (.slice A0_3 l0_3.length c0_3)) (ds:=[]) #[false,false,false,false,false,false,false,false,false,false,false] (by kernel_rfl) rfl rfl ⟨(zI BK444.out 0).trans rfl,(zI BK444.out 1).trans rfl,(zI BK444.out 2).trans rfl,(zI BK444.out 3).trans rfl⟩ (fun hHeld=>?_);refine with_tabW zAv.tab1 zAv.bits1 (fun HT_ HW_=>?_);generalize w6.drew = w7 at BK444 BK445 HB hHeld ⊢;refine pq 0 (some 3) HT_ ?_;refine pq 3 (some 6) HT_ ?_;refine pq 6 (some 9) HT_ ?_;refine tq 1 (some 4) HT_ HW_ hHeld ?_;refine tq 4 (some 7) HT_ HW_ hHeld ?_;refine tq 7 (some 10) HT_ HW_ hHeld ?_;refine oq 2 (some 5) HT_ (fun K hK=>?_);refine gq Tryz.func23 #[.agg #[.slice A0_0 l0_0.length c0_0,.slice A0_1 l0_1.length c0_1]] ?_;(with_reducible refine (zAV.calls k _ _ l0_0 _ _ l0_1 t446 t449 _ (qc HR0_0) HC0_0.out (qc HR0_1) HC0_1.out A2.out).mono ?_);rintro e w8 ⟨v447,v450,rfl,ho0,ho1,hb⟩;refine ⟨_,rfl,?_⟩;have HO448:=zA (Kd.R_lower ho0 qs);have HO451:=zA (Kd.R_lower ho1 qs);replace BK444:=qK BK444 hb;replace BK445:=qK BK445 hb;replace HB:=zA (zH qb hb);(try clear hb);(try clear hb2);(try clear hk);(try clear hi);(try clear ho0);(try clear ho1);refine hK.out _ _ ⟨(zI BK444.out 0).trans rfl,(zI BK444.out 1).trans rfl,(zI BK444.out 2).trans rfl,(zI BK444.out 3).trans rfl⟩ (fun hHeld=>?_);clear hK K;refine norm_ (a':=?_) ?_ ?_;rotate_left
 ·show Act.put _ (some 5) _ = _;simp only [Act.put,zX,zY,zZ,i64_w,i32_w];rfl
 refine oq 5 (some 8) HT_ (fun K hK=>?_);refine gq Tryz.func24 #[.slice A0_2 l0_2.length c0_2] ?_;(with_reducible refine (zAr.calls k _ _ l0_2 t452 _ (qc HR0_2) HC0_2.out A3.out).mono ?_);rintro e w9 ⟨v453,rfl,ho0,hb⟩;refine ⟨_,rfl,?_⟩;replace HO448:=zA (Kd.R_below (qR HO448) hb);replace HO451:=zA (Kd.R_below (qR HO451) hb);have HO454:=zA (Kd.S_lower ho0 qs);replace BK444:=qK BK444 hb;replace BK445:=qK BK445 hb;replace HB:=zA (zH qb hb);(try clear hb);(try clear hb2);(try clear hk);(try clear hi);(try clear ho0);refine hK.out _ _ ⟨(zI BK444.out 0).trans rfl,(zI BK444.out 1).trans rfl,(zI BK444.out 2).trans rfl,(zI BK444.out 3).trans rfl⟩ (fun hHeld=>?_);clear hK K;refine norm_ (a':=?_) ?_ ?_;rotate_left
 ·show Act.put _ (some 8) _ = _;simp only [Act.put,zX,zY,zZ,i64_w,i32_w];rfl
 refine oq 8 (some 11) HT_ (fun K hK=>?_);refine gq Tryz.func25 #[.slice A0_3 l0_3.length c0_3] ?_;(with_reducible refine (zBA.calls _ _ l0_3 t455 _ (qc HR0_3) HC0_3.out A4.out).mono ?_);rintro e w10 ⟨v456,rfl,ho0,hb⟩;refine ⟨_,rfl,?_⟩;replace HO448:=zA (Kd.R_below (qR HO448) hb);replace HO451:=zA (Kd.R_elder' (qR HO451) (Kd.R_base ho0) hb);replace HO454:=zA (Kd.S_elder' (qS HO454) (Kd.R_base ho0) hb);have HO457:=zA (Kd.R_lower ho0 qs);replace BK444:=qK BK444 hb;replace BK445:=qK BK445 hb;replace HB:=zA (zH qb hb);(try clear hb);(try clear hb2);(try clear hk);(try clear hi);(try clear ho0);obtain ⟨Ao11,co11,eo11⟩:=Kd.R_slice HO457.out;(first|subst eo11|(injection eo11 with f1_ f2_ f3_;have f4_:=f1_.symm;have f5_:=f3_.symm;clear f1_ f2_ f3_;subst f4_;subst f5_));obtain ⟨Ao12,co12,eo12⟩:=Kd.S_slice HO454.out;(first|subst eo12|(injection eo12 with f1_ f2_ f3_;have f4_:=f1_.symm;have f5_:=f3_.symm;clear f1_ f2_ f3_;subst f4_;subst f5_));obtain ⟨Ao13,co13,eo13⟩:=Kd.R_slice HO451.out;(first|subst eo13|(injection eo13 with f1_ f2_ f3_;have f4_:=f1_.symm;have f5_:=f3_.symm;clear f1_ f2_ f3_;subst f4_;subst f5_));obtain ⟨Ao14,co14,eo14⟩:=Kd.R_slice HO448.out;(first|subst eo14|(injection eo14 with f1_ f2_ f3_;have f4_:=f1_.symm;have f5_:=f3_.symm;clear f1_ f2_ f3_;subst f4_;subst f5_));refine hK.out _ _ ⟨(zI BK444.out 0).trans rfl,(zI BK444.out 1).trans rfl,(zI BK444.out 2).trans rfl,(zI BK444.out 3).trans rfl⟩ (fun hHeld=>?_);clear hK K;refine norm_ (a':=?_) ?_ ?_;rotate_left
 ·show Act.put _ (some 11) _ = _;simp only [Act.put,zX,zY,zZ,i64_w,i32_w];rfl
 refine pq 9 (some 12) HT_ ?_;refine oq 10 (none) HT_ (fun K hK=>?_);have hs15:w10.cell? ⟨gb445,0,none⟩ = some (.slice none 0 0):=(zI BK445.out 0).trans rfl;have hfs15:=zJ BK445.out 0;have hns15_0:=NB444_445.out;have hms15_0:=NB445_444.out;have hs16:w10.cell? ⟨gb445,1,none⟩ = some (.slice none 0 0):=(zI BK445.out 1).trans rfl;have hfs16:=zJ BK445.out 1;have hns16_0:=NB444_445.out;have hms16_0:=NB445_444.out;have hs17:w10.cell? ⟨gb445,2,none⟩ = some (.slice none 0 0):=(zI BK445.out 2).trans rfl;have hfs17:=zJ BK445.out 2;have hns17_0:=NB444_445.out;have hms17_0:=NB445_444.out;have hs18:w10.cell? ⟨gb445,3,none⟩ = some (.slice none 0 0):=(zI BK445.out 3).trans rfl;have hfs18:=zJ BK445.out 3;have hns18_0:=NB444_445.out;have hms18_0:=NB445_444.out;refine skip_ (w1:=?_) (by rfl) rfl ?_ ?_;rotate_left
 ·go_simp;rfl
 refine hK.out _ _ ⟨((cell_far (p:=⟨gb445,_,none⟩) NB444_445.out _).trans (((cell_far (p:=⟨gb445,_,none⟩) NB444_445.out _).trans (((cell_far (p:=⟨gb445,_,none⟩) NB444_445.out _).trans (((cell_far (p:=⟨gb445,_,none⟩) NB444_445.out _).trans (hHeld.1)))))))),((cell_far (p:=⟨gb445,_,none⟩) NB444_445.out _).trans (((cell_far (p:=⟨gb445,_,none⟩) NB444_445.out _).trans (((cell_far (p:=⟨gb445,_,none⟩) NB444_445.out _).trans (((cell_far (p:=⟨gb445,_,none⟩) NB444_445.out _).trans (hHeld.2.1)))))))),((cell_far (p:=⟨gb445,_,none⟩) NB444_445.out _).trans (((cell_far (p:=⟨gb445,_,none⟩) NB444_445.out _).trans (((cell_far (p:=⟨gb445,_,none⟩) NB444_445.out _).trans (((cell_far (p:=⟨gb445,_,none⟩) NB444_445.out _).trans (hHeld.2.2.1)))))))),((cell_far (p:=⟨gb445,_,none⟩) NB444_445.out _).trans (((cell_far (p:=⟨gb445,_,none⟩) NB444_445.out _).trans (((cell_far (p:=⟨gb445,_,none⟩) NB444_445.out _).trans (((cell_far (p:=⟨gb445,_,none⟩) NB444_445.out _).trans (hHeld.2.2.2))))))))⟩ (fun hHeld=>?_);clear hK K;refine done_ (done_of HT_.out (by kernel_rfl)) ?_;(try go_wp2);refine bodyPost_ret (results_cell_row rfl _ _ gb445 29 #[.slice Ao14 t446.length co14,.slice Ao13 t449.length co13,.slice Ao12 t452.length co12,.slice Ao11 t455.length co11] (0,0) _ rfl (by (with_reducible repeat (first|refine zL ?_ _|refine zM ?_|refine zK ?_ _));refine zO (cs:=#[.slice Ao14 t446.length co14,.slice Ao13 t449.length co13,.slice Ao12 t452.length co12,.slice none 0 0]) ?_ 3 _ rfl;(with_reducible repeat (first|refine zL ?_ _|refine zM ?_|refine zK ?_ _));refine zO (cs:=#[.slice Ao14 t446.length co14,.slice Ao13 t449.length co13,.slice none 0 0,.slice none 0 0]) ?_ 2 _ rfl;(with_reducible repeat (first|refine zL ?_ _|refine zM ?_|refine zK ?_ _));refine zO (cs:=#[.slice Ao14 t446.length co14,.slice none 0 0,.slice none 0 0,.slice none 0 0]) ?_ 1 _ rfl;(with_reducible repeat (first|refine zL ?_ _|refine zM ?_|refine zK ?_ _));refine zO (cs:=#[.slice none 0 0,.slice none 0 0,.slice none 0 0,.slice none 0 0]) ?_ 0 _ rfl;(with_reducible repeat (first|refine zL ?_ _|refine zM ?_|refine zK ?_ _));exact BK445.out) Tryz.underlying29 rfl (by kernel_rfl)) rfl ?_;exact ⟨_,_,_,_,qe,by (with_reducible repeat (first|apply Kd.R_alloc|apply Kd.R_drewN|apply Kd.R_drew));exact Kd.R_mono (Kd.R_far (p:=⟨gb445,3,none⟩) (Kd.R_far (p:=⟨gb445,2,none⟩) (Kd.R_far (p:=⟨gb445,1,none⟩) (Kd.R_far (p:=⟨gb445,0,none⟩) (Kd.R_types HO448.out BK445.out (by decide)) (fun _ hk=>hk.2) (.slice Ao14 t446.length co14)) (fun _ hk=>hk.2) (.slice Ao13 t449.length co13)) (fun _ hk=>hk.2) (.slice Ao12 t452.length co12)) (fun _ hk=>hk.2) (.slice Ao11 t455.length co11)) (fun _ hk=>trivial),by (with_reducible repeat (first|apply Kd.R_alloc|apply Kd.R_drewN|apply Kd.R_drew));exact Kd.R_mono (Kd.R_far (p:=⟨gb445,3,none⟩) (Kd.R_far (p:=⟨gb445,2,none⟩) (Kd.R_far (p:=⟨gb445,1,none⟩) (Kd.R_far (p:=⟨gb445,0,none⟩) (Kd.R_types HO451.out BK445.out (by decide)) (fun _ hk=>hk.2) (.slice Ao14 t446.length co14)) (fun _ hk=>hk.2) (.slice Ao13 t449.length co13)) (fun _ hk=>hk.2) (.slice Ao12 t452.length co12)) (fun _ hk=>hk.2) (.slice Ao11 t455.length co11)) (fun _ hk=>hk.1.2),by (with_reducible repeat (first|apply Kd.S_alloc|apply Kd.S_drewN|apply Kd.S_drew));exact Kd.S_mono (Kd.S_far (p:=⟨gb445,3,none⟩) (Kd.S_far (p:=⟨gb445,2,none⟩) (Kd.S_far (p:=⟨gb445,1,none⟩) (Kd.S_far (p:=⟨gb445,0,none⟩) (Kd.S_types HO454.out BK445.out (by decide)) (fun _ hk=>hk.2) (.slice Ao14 t446.length co14)) (fun _ hk=>hk.2) (.slice Ao13 t449.length co13)) (fun _ hk=>hk.2) (.slice Ao12 t452.length co12)) (fun _ hk=>hk.2) (.slice Ao11 t455.length co11)) (fun _ hk=>hk.1.2),by (with_reducible repeat (first|apply Kd.R_alloc|apply Kd.R_drewN|apply Kd.R_drew));exact Kd.R_mono (Kd.R_far (p:=⟨gb445,3,none⟩) (Kd.R_far (p:=⟨gb445,2,none⟩) (Kd.R_far (p:=⟨gb445,1,none⟩) (Kd.R_far (p:=⟨gb445,0,none⟩) (Kd.R_types HO457.out BK445.out (by decide)) (fun _ hk=>hk.2) (.slice Ao14 t446.length co14)) (fun _ hk=>hk.2) (.slice Ao13 t449.length co13)) (fun _ hk=>hk.2) (.slice Ao12 t452.length co12)) (fun _ hk=>hk.2) (.slice Ao11 t455.length co11)) (fun _ hk=>trivial),qb⟩
def zAq.f (k:Nat) (l0:List (S96)) (a1:Int) (a2:Bool):Option (Int):=(zAM.f k l0 a1).bind fun bt523=>(if bt523.2 = 0 then (if (bt523.1 != a2) = true then (some 5) else (some 0)) else (some bt523.2))
theorem zAq.mono:∀ a0 a1 a2 k,LeO (zAq.f k a0 a1 a2) (zAq.f (k + 1) a0 a1 a2):=by
 intro a0 a1 a2 k;unfold zAq.f;exact qM @zAM.mono
set_option maxHeartbeats 8000000 in
set_option maxRecDepth 100000 in
theorem zAq.calls (k:Nat) (A0:Option Addr) (c0:Nat) (l0:List (S96)) (a1:Int) (a2:Bool) (r:Int) (w:World) (hr0:Kd.C k96 w A0 l0.length l0) (hc0:l0.length ≤ c0) (h:zAq.f k l0 a1 a2 = some r) :
  Calls Tryz.prog 92 #[.slice A0 l0.length c0,.int .i64 a1,.bool a2] w fun e w'=>e = .returned (.int .i64 r)∧Below w.heap.size w w':=by
 have HR0:=zA hr0;have HC0:=zA hc0;clear hr0 hc0;have HB:=zA (Below.refl w.heap.size w);have H:((zAM.f k l0 a1).bind fun bt523=>(if bt523.2 = 0 then (if (bt523.1 != a2) = true then (some 5) else (some 0)) else (some bt523.2))) = some r:=h;clear h;replace H:=zb.mp H;obtain ⟨⟨t523,t524⟩,A40,H⟩:=H;(try dsimp only at H);have A4:=zA A40;clear A40;rcases qE H with ⟨c5b0,c5b1,H⟩|⟨c5,c5b0,c5b1,H⟩
 ·by_cases c6:(t523 != a2) = true
  ·rw [if_pos c6] at H;have c6b0:(t523 != a2) = true:=c6;(try (have c6b1:decide (t523 = a2) = false:=by simpa using c6));(try (have c6b2:(t523 == a2) = false:=by simpa using c6));(try (have c6b3:¬ (t523 = a2):=by simpa using c6));clear c6;obtain rfl:=Option.some.inj H;go_enter Tryz.func92,Tryz.ntmps92;go_wp2_with (first|((with_reducible refine zU (f:=96) rfl ?_);refine gL (some 12) Tryz.func96 #[.slice A0 l0.length c0,.int .i64 a1] ?_;(with_reducible refine (zAM.calls k _ _ l0 a1 t523 t524 _ (qu HR0.out) HC0.out A4.out).mono ?_);rintro e w7 ⟨rfl,hb⟩;refine ⟨_,rfl,?_⟩;replace HB:=zA (zH qb hb);clear hb));go_ret;exact ⟨qe,qb⟩
  ·rw [if_neg c6] at H;have c6b0:(t523 != a2) = false:=by simpa using c6
   (try (have c6b1:decide (t523 = a2) = true:=by simpa using c6));(try (have c6b2:(t523 == a2) = true:=by simpa using c6));clear c6;obtain rfl:=Option.some.inj H;go_enter Tryz.func92,Tryz.ntmps92;go_wp2_with (first|((with_reducible refine zU (f:=96) rfl ?_);refine gL (some 12) Tryz.func96 #[.slice A0 l0.length c0,.int .i64 a1] ?_;(with_reducible refine (zAM.calls k _ _ l0 a1 t523 t524 _ (qu HR0.out) HC0.out A4.out).mono ?_);rintro e w8 ⟨rfl,hb⟩;refine ⟨_,rfl,?_⟩;replace HB:=zA (zH qb hb);clear hb));go_ret;exact ⟨qe,qb⟩
 ·obtain rfl:=Option.some.inj H;go_enter Tryz.func92,Tryz.ntmps92;go_wp2_with (first|((with_reducible refine zU (f:=96) rfl ?_);refine gL (some 12) Tryz.func96 #[.slice A0 l0.length c0,.int .i64 a1] ?_;(with_reducible refine (zAM.calls k _ _ l0 a1 t523 t524 _ (qu HR0.out) HC0.out A4.out).mono ?_);rintro e w9 ⟨rfl,hb⟩;refine ⟨_,rfl,?_⟩;replace HB:=zA (zH qb hb);clear hb));go_ret;exact ⟨qe,qb⟩
mutual
def zAQ.j0:Nat → ByteArray → Bool → Option (Bool)
 | 0,_,_=>none
 | k + 1,x0,x17=>if x17 = true then (some false) else (zAQ.l0 k x0 0)
def zAQ.l0:Nat → ByteArray → Int → Option (Bool)
 | 0,_,_=>none
 | k + 1,x0,x3=>if x3 < (x0.size:Int) then (if 0 ≤ x3 then ((zAE.f (wrap64 (bt x0 x3)) 97 122).bind fun t459=>((zAE.f (wrap64 (bt x0 x3)) 48 57).bind fun t460=>(if t459 = true then (if x3 = 0 then (if t460 = true then (some false) else (zAQ.l0 k x0 (wrap64 (x3 + 1)))) else (zAQ.l0 k x0 (wrap64 (x3 + 1)))) else (if t460 = true then (if x3 = 0 then (some false) else (zAQ.l0 k x0 (wrap64 (x3 + 1)))) else (some false))))) else (none)) else (some true)
end
def zAQ.f (k:Nat) (a0:ByteArray):Option (Bool):=(zAE.f (a0.size:Int) 1 8).bind fun t458=>(if t458 = true then (if a0.toList = ([121,101,115]:List UInt8) then (zAQ.j0 k a0 true) else (zAQ.j0 k a0 (a0.toList == ([110,111]:List UInt8)))) else (zAQ.j0 k a0 true))
theorem zAQ.mono_l:∀ k,(∀ y0 y1,LeO (zAQ.j0 k y0 y1) (zAQ.j0 (k + 1) y0 y1))∧(∀ y0 y1,LeO (zAQ.l0 k y0 y1) (zAQ.l0 (k + 1) y0 y1))
 | 0=>⟨fun _ _ r h=>by simp [zAQ.j0] at h,fun _ _ r h=>by simp [zAQ.l0] at h⟩
 | k + 1=>by
  obtain ⟨ih0,ih1⟩:=zAQ.mono_l k
  refine ⟨?_,?_⟩
  ·intro y0 y1
   unfold zAQ.j0
   exact qL
  ·intro y0 y1
   unfold zAQ.l0
   exact qL
theorem zAQ.mono:∀ a0 k,LeO (zAQ.f k a0) (zAQ.f (k + 1) a0):=by
 intro a0 k;obtain ⟨ih0,ih1⟩:=zAQ.mono_l k;unfold zAQ.f;exact qL
set_option maxHeartbeats 8000000 in
set_option maxRecDepth 100000 in
theorem zAQ.calls (k:Nat) (a0:ByteArray) (r:Bool) (w:World) (h:zAQ.f k a0 = some r) :
  Calls Tryz.prog 122 #[.string a0] w fun e w'=>e = .returned (.bool r)∧Drawn0 w w':=by
 have H:((zAE.f (a0.size:Int) 1 8).bind fun t458=>(if t458 = true then (if a0.toList = ([121,101,115]:List UInt8) then (zAQ.j0 k a0 true) else (zAQ.j0 k a0 (a0.toList == ([110,111]:List UInt8)))) else (zAQ.j0 k a0 true))) = some r:=h;clear h;have HC2:=zA H;clear H;go_enter Tryz.func122,Tryz.ntmps122;go_upto_region 1 with (fail);go_cut [17] (fun v17 wc=>∃ (kq:Nat) (x17_1:Bool),v17 = .bool x17_1∧Aside0 (zAQ.j0 kq a0 x17_1 = some r)∧Aside0 (kq ≤ k)∧Drawn0 w wc)
 case first =>
  have H:=HC2.out;clear HC2;replace H:=zb.mp H;obtain ⟨t458,A30,H⟩:=H;(try dsimp only at H);have A3:=zA A30;clear A30;by_cases c4:t458 = true
  ·subst c4;rw [if_pos rfl] at H
   by_cases c5:a0.toList = ([121,101,115]:List UInt8)
   ·rw [if_pos c5] at H;have c5b0:(a0.toList == ([121,101,115]:List UInt8)) = true:=beq_iff_eq.mpr c5;have c5b1:(a0.toList != ([121,101,115]:List UInt8)) = false:=bne_eq_false_iff_eq.mpr c5;clear c5;(first|rw [c5b0]|(simp only [i64_w,i32_w];rw [c5b0])|skip);have H':=zA H;clear H;go_wp2_with (first|((with_reducible refine zU (f:=29) rfl ?_);refine gL (some 8) Tryz.func29 #[.int .i64 (a0.size:Int),.int .i64 1,.int .i64 8] ?_;(with_reducible refine (zAE.calls (a0.size:Int) 1 8 true _ A3.out).mono ?_);rintro e w' ⟨rfl,⟨nd,rfl⟩⟩;refine ⟨_,rfl,?_⟩));go_meet
    case rel=>exact ⟨_,(true),qr,H',⟨qm⟩,qt⟩
   ·rw [if_neg c5] at H;have c5b0:(a0.toList == ([121,101,115]:List UInt8)) = false:=beq_eq_false_iff_ne.mpr c5;have c5b1:(a0.toList != ([121,101,115]:List UInt8)) = true:=bne_iff_ne.mpr c5;(first|rw [c5b0]|(simp only [i64_w,i32_w];rw [c5b0])|skip);have H':=zA H;clear H;go_wp2_with (first|((with_reducible refine zU (f:=29) rfl ?_);refine gL (some 8) Tryz.func29 #[.int .i64 (a0.size:Int),.int .i64 1,.int .i64 8] ?_;(with_reducible refine (zAE.calls (a0.size:Int) 1 8 true _ A3.out).mono ?_);rintro e w' ⟨rfl,⟨nd,rfl⟩⟩;refine ⟨_,rfl,?_⟩));go_meet
    case rel=>exact ⟨_,((a0.toList == ([110,111]:List UInt8))),qr,H',⟨qm⟩,qt⟩
  ·replace c4:=Bool.eq_false_iff.mpr c4;subst c4;rw [if_neg (show ¬ (false = true) by decide)] at H
   have H':=zA H;clear H;go_wp2_with (first|((with_reducible refine zU (f:=29) rfl ?_);refine gL (some 8) Tryz.func29 #[.int .i64 (a0.size:Int),.int .i64 1,.int .i64 8] ?_;(with_reducible refine (zAE.calls (a0.size:Int) 1 8 false _ A3.out).mono ?_);rintro e w' ⟨rfl,⟨nd,rfl⟩⟩;refine ⟨_,rfl,?_⟩));go_meet
   case rel=>exact ⟨_,(true),qr,H',⟨qm⟩,qt⟩
 case rest =>
  clear HC2;obtain ⟨kq,x17_1,rfl,HA,HJ1,⟨mc1,rfl⟩⟩:=hcut;cases kq with
  | zero=>exact absurd HA.out (by simp [zAQ.j0])
  | succ kj1 =>
   have H:=HA.out;clear HA;simp only [zAQ.j0] at H;by_cases c6:x17_1 = true
   ·subst c6;rw [if_pos rfl] at H
    obtain rfl:=Option.some.inj H;go_wp2;go_ret;exact ⟨qr,qt⟩
   ·replace c6:=Bool.eq_false_iff.mpr c6;subst c6;rw [if_neg (show ¬ (false = true) by decide)] at H
    have H':=zA H;clear H;go_wp2;go_loopg [3] kj1 (fun kq v3 w'=>∃ (x3_2:Int),v3 = .int .i64 x3_2∧Aside0 (zAQ.l0 kq a0 x3_2 = some r)∧Aside0 (kq ≤ kj1)∧Drawn0 w w')
    case atStart=>exact ⟨(0),qr,H',⟨Nat.le_refl _⟩,qt⟩
    case round =>
     clear H';obtain ⟨x3_2,rfl,HA,HK2,⟨m2,rfl⟩⟩:=hrel;cases gk with
     | zero=>exact absurd HA.out (by simp [zAQ.l0])
     | succ k2 =>
      have H:=HA.out;clear HA;simp only [zAQ.l0] at H;rcases qj H with ⟨c7b0,H⟩|⟨c7b0,H⟩
      ·rcases qj H with ⟨c8b0,H⟩|⟨c8,H⟩
       ·replace H:=zb.mp H;obtain ⟨t459,A100,H⟩:=H;(try dsimp only at H);have A10:=zA A100;clear A100;replace H:=zb.mp H;obtain ⟨t460,A120,H⟩:=H;(try dsimp only at H);have A12:=zA A120;clear A120;by_cases c13:t459 = true
        ·subst c13;rw [if_pos rfl] at H
         rcases qE H with ⟨c14b0,c14b1,H⟩|⟨c14,c14b0,c14b1,H⟩
         ·by_cases c15:t460 = true
          ·subst c15;rw [if_pos rfl] at H
           obtain rfl:=Option.some.inj H;have p9:0 ≤ (x3_2:Int):=qd;have q9:x3_2 < (a0.size:Int):=qd;have hx9:=bt_at a0 x3_2;replace p9:=qT p9;replace q9:=qT q9;go_wp2_with (first|((with_reducible refine zU (f:=29) rfl ?_);refine gL (some 28) Tryz.func29 #[.int .i64 (wrap64 (bt a0 x3_2)),.int .i64 97,.int .i64 122] ?_;(with_reducible refine (zAE.calls (wrap64 (bt a0 x3_2)) 97 122 true _ A10.out).mono ?_);rintro e w' ⟨rfl,⟨nd,rfl⟩⟩;refine ⟨_,rfl,?_⟩;have p11:0 ≤ (x3_2:Int):=qd;have q11:x3_2 < (a0.size:Int):=qd;have hx11:=bt_at a0 x3_2;replace p11:=qT p11;replace q11:=qT q11)|((with_reducible refine zU (f:=29) rfl ?_);refine gL (some 33) Tryz.func29 #[.int .i64 (wrap64 (bt a0 x3_2)),.int .i64 48,.int .i64 57] ?_;(with_reducible refine (zAE.calls (wrap64 (bt a0 x3_2)) 48 57 true _ A12.out).mono ?_);rintro e w' ⟨rfl,⟨nd,rfl⟩⟩;refine ⟨_,rfl,?_⟩));go_ret;exact ⟨qr,qt⟩
          ·replace c15:=Bool.eq_false_iff.mpr c15;subst c15;rw [if_neg (show ¬ (false = true) by decide)] at H
           have H':=zA H;clear H;have p9:0 ≤ (x3_2:Int):=qd;have q9:x3_2 < (a0.size:Int):=qd;have hx9:=bt_at a0 x3_2;replace p9:=qT p9;replace q9:=qT q9;go_wp2_with (first|((with_reducible refine zU (f:=29) rfl ?_);refine gL (some 28) Tryz.func29 #[.int .i64 (wrap64 (bt a0 x3_2)),.int .i64 97,.int .i64 122] ?_;(with_reducible refine (zAE.calls (wrap64 (bt a0 x3_2)) 97 122 true _ A10.out).mono ?_);rintro e w' ⟨rfl,⟨nd,rfl⟩⟩;refine ⟨_,rfl,?_⟩;have p11:0 ≤ (x3_2:Int):=qd;have q11:x3_2 < (a0.size:Int):=qd;have hx11:=bt_at a0 x3_2;replace p11:=qT p11;replace q11:=qT q11)|((with_reducible refine zU (f:=29) rfl ?_);refine gL (some 33) Tryz.func29 #[.int .i64 (wrap64 (bt a0 x3_2)),.int .i64 48,.int .i64 57] ?_;(with_reducible refine (zAE.calls (wrap64 (bt a0 x3_2)) 48 57 false _ A12.out).mono ?_);rintro e w' ⟨rfl,⟨nd,rfl⟩⟩;refine ⟨_,rfl,?_⟩));go_roundg k2
           case measure=>have:=HJ1.out;have:=HK2.out;omega
           case rel=>exact ⟨(wrap64 (x3_2 + 1)),qr,H',⟨qp HJ1 HK2⟩,qt⟩
         ·have H':=zA H;clear H;have p9:0 ≤ (x3_2:Int):=qd;have q9:x3_2 < (a0.size:Int):=qd;have hx9:=bt_at a0 x3_2;replace p9:=qT p9;replace q9:=qT q9;go_wp2_with (first|((with_reducible refine zU (f:=29) rfl ?_);refine gL (some 28) Tryz.func29 #[.int .i64 (wrap64 (bt a0 x3_2)),.int .i64 97,.int .i64 122] ?_;(with_reducible refine (zAE.calls (wrap64 (bt a0 x3_2)) 97 122 true _ A10.out).mono ?_);rintro e w' ⟨rfl,⟨nd,rfl⟩⟩;refine ⟨_,rfl,?_⟩;have p11:0 ≤ (x3_2:Int):=qd;have q11:x3_2 < (a0.size:Int):=qd;have hx11:=bt_at a0 x3_2;replace p11:=qT p11;replace q11:=qT q11)|((with_reducible refine zU (f:=29) rfl ?_);refine gL (some 33) Tryz.func29 #[.int .i64 (wrap64 (bt a0 x3_2)),.int .i64 48,.int .i64 57] ?_;(with_reducible refine (zAE.calls (wrap64 (bt a0 x3_2)) 48 57 t460 _ A12.out).mono ?_);rintro e w' ⟨rfl,⟨nd,rfl⟩⟩;refine ⟨_,rfl,?_⟩));go_roundg k2
          case measure=>have:=HJ1.out;have:=HK2.out;omega
          case rel=>exact ⟨(wrap64 (x3_2 + 1)),qr,H',⟨qp HJ1 HK2⟩,qt⟩
        ·replace c13:=Bool.eq_false_iff.mpr c13;subst c13;rw [if_neg (show ¬ (false = true) by decide)] at H
         by_cases c16:t460 = true
         ·subst c16;rw [if_pos rfl] at H
          rcases qE H with ⟨c17b0,c17b1,H⟩|⟨c17,c17b0,c17b1,H⟩
          ·obtain rfl:=Option.some.inj H;have p9:0 ≤ (x3_2:Int):=qd;have q9:x3_2 < (a0.size:Int):=qd;have hx9:=bt_at a0 x3_2;replace p9:=qT p9;replace q9:=qT q9;go_wp2_with (first|((with_reducible refine zU (f:=29) rfl ?_);refine gL (some 28) Tryz.func29 #[.int .i64 (wrap64 (bt a0 x3_2)),.int .i64 97,.int .i64 122] ?_;(with_reducible refine (zAE.calls (wrap64 (bt a0 x3_2)) 97 122 false _ A10.out).mono ?_);rintro e w' ⟨rfl,⟨nd,rfl⟩⟩;refine ⟨_,rfl,?_⟩;have p11:0 ≤ (x3_2:Int):=qd;have q11:x3_2 < (a0.size:Int):=qd;have hx11:=bt_at a0 x3_2;replace p11:=qT p11;replace q11:=qT q11)|((with_reducible refine zU (f:=29) rfl ?_);refine gL (some 33) Tryz.func29 #[.int .i64 (wrap64 (bt a0 x3_2)),.int .i64 48,.int .i64 57] ?_;(with_reducible refine (zAE.calls (wrap64 (bt a0 x3_2)) 48 57 true _ A12.out).mono ?_);rintro e w' ⟨rfl,⟨nd,rfl⟩⟩;refine ⟨_,rfl,?_⟩));go_ret;exact ⟨qr,qt⟩
          ·have H':=zA H;clear H;have p9:0 ≤ (x3_2:Int):=qd;have q9:x3_2 < (a0.size:Int):=qd;have hx9:=bt_at a0 x3_2;replace p9:=qT p9;replace q9:=qT q9;go_wp2_with (first|((with_reducible refine zU (f:=29) rfl ?_);refine gL (some 28) Tryz.func29 #[.int .i64 (wrap64 (bt a0 x3_2)),.int .i64 97,.int .i64 122] ?_;(with_reducible refine (zAE.calls (wrap64 (bt a0 x3_2)) 97 122 false _ A10.out).mono ?_);rintro e w' ⟨rfl,⟨nd,rfl⟩⟩;refine ⟨_,rfl,?_⟩;have p11:0 ≤ (x3_2:Int):=qd;have q11:x3_2 < (a0.size:Int):=qd;have hx11:=bt_at a0 x3_2;replace p11:=qT p11;replace q11:=qT q11)|((with_reducible refine zU (f:=29) rfl ?_);refine gL (some 33) Tryz.func29 #[.int .i64 (wrap64 (bt a0 x3_2)),.int .i64 48,.int .i64 57] ?_;(with_reducible refine (zAE.calls (wrap64 (bt a0 x3_2)) 48 57 true _ A12.out).mono ?_);rintro e w' ⟨rfl,⟨nd,rfl⟩⟩;refine ⟨_,rfl,?_⟩));go_roundg k2
           case measure=>have:=HJ1.out;have:=HK2.out;omega
           case rel=>exact ⟨(wrap64 (x3_2 + 1)),qr,H',⟨qp HJ1 HK2⟩,qt⟩
         ·replace c16:=Bool.eq_false_iff.mpr c16;subst c16;rw [if_neg (show ¬ (false = true) by decide)] at H
          obtain rfl:=Option.some.inj H;have p9:0 ≤ (x3_2:Int):=qd;have q9:x3_2 < (a0.size:Int):=qd;have hx9:=bt_at a0 x3_2;replace p9:=qT p9;replace q9:=qT q9;go_wp2_with (first|((with_reducible refine zU (f:=29) rfl ?_);refine gL (some 28) Tryz.func29 #[.int .i64 (wrap64 (bt a0 x3_2)),.int .i64 97,.int .i64 122] ?_;(with_reducible refine (zAE.calls (wrap64 (bt a0 x3_2)) 97 122 false _ A10.out).mono ?_);rintro e w' ⟨rfl,⟨nd,rfl⟩⟩;refine ⟨_,rfl,?_⟩;have p11:0 ≤ (x3_2:Int):=qd;have q11:x3_2 < (a0.size:Int):=qd;have hx11:=bt_at a0 x3_2;replace p11:=qT p11;replace q11:=qT q11)|((with_reducible refine zU (f:=29) rfl ?_);refine gL (some 33) Tryz.func29 #[.int .i64 (wrap64 (bt a0 x3_2)),.int .i64 48,.int .i64 57] ?_;(with_reducible refine (zAE.calls (wrap64 (bt a0 x3_2)) 48 57 false _ A12.out).mono ?_);rintro e w' ⟨rfl,⟨nd,rfl⟩⟩;refine ⟨_,rfl,?_⟩));go_ret;exact ⟨qr,qt⟩
       ·nomatch H
      ·obtain rfl:=Option.some.inj H;go_wp2;go_ret;exact ⟨qr,qt⟩
mutual
def zAB.l0:Nat → List (S113) → Int → Int → Option (Int)
 | 0,_,_,_=>none
 | k + 1,x0,x3,x4=>if x4 < (x0.length:Int) then (if 0 ≤ x4 then ((zAQ.f k ((zAO x0 x4).f0)).bind fun t463=>(if t463 = true then (zAB.l1 k x0 x3 x4 0 ((zAO x0 x4).f0) ((zAO x0 x4).f1) ((zAO x0 x4).f2) ((zAO x0 x4).f3)) else (some 6))) else (none)) else (some 0)
def zAB.l1:Nat → List (S113) → Int → Int → Int → ByteArray → Int → Int → Int → Option (Int)
 | 0,_,_,_,_,_,_,_,_=>none
 | k + 1,x0,x3,x4,x6,x463000,x463001,x463002,x463003=>if x6 < x4 then (if 0 ≤ x6 then (if x6 < (x0.length:Int) then (if ((zAO x0 x6).f0).toList = x463000.toList then (some 7) else (zAB.l1 k x0 x3 x4 (wrap64 (x6 + 1)) x463000 x463001 x463002 x463003)) else (none)) else (none)) else ((zAE.f x463001 (-1000) 1000).bind fun t465=>(if t465 = true then ((zAE.f x463002 x463001 1000).bind fun t466=>(if t466 = true then ((zAE.f x463003 x463001 x463002).bind fun t467=>(zAB.j2 k x0 x3 x4 (!t467) x463000 x463001 x463002 x463003)) else (zAB.j2 k x0 x3 x4 true x463000 x463001 x463002 x463003))) else (zAB.j2 k x0 x3 x4 true x463000 x463001 x463002 x463003)))
def zAB.j2:Nat → List (S113) → Int → Int → Bool → ByteArray → Int → Int → Int → Option (Int)
 | 0,_,_,_,_,_,_,_,_=>none
 | k + 1,x0,x3,x4,x58,x463000,x463001,x463002,x463003=>if x58 = true then (some 2) else (if (wrap64 (x463002 - x463001)) > 63 then (some 1) else (if (wrap64 (x3 * (wrap64 ((wrap64 (x463002 - x463001)) + 1)))) > 4096 then (some 1) else (zAB.l0 k x0 (wrap64 (x3 * (wrap64 ((wrap64 (x463002 - x463001)) + 1)))) (wrap64 (x4 + 1)))))
end
def zAB.f (k:Nat) (l0:List (S113)):Option (Int):=if (l0.length:Int) > 6 then (some 1) else (zAB.l0 k l0 1 0)
theorem zAB.mono_l:∀ k,(∀ y0 y1 y2,LeO (zAB.l0 k y0 y1 y2) (zAB.l0 (k + 1) y0 y1 y2))∧(∀ y0 y1 y2 y3 y4 y5 y6 y7,LeO (zAB.l1 k y0 y1 y2 y3 y4 y5 y6 y7) (zAB.l1 (k + 1) y0 y1 y2 y3 y4 y5 y6 y7))∧(∀ y0 y1 y2 y3 y4 y5 y6 y7,LeO (zAB.j2 k y0 y1 y2 y3 y4 y5 y6 y7) (zAB.j2 (k + 1) y0 y1 y2 y3 y4 y5 y6 y7))
 | 0=>⟨fun _ _ _ r h=>by simp [zAB.l0] at h,fun _ _ _ _ _ _ _ _ r h=>by simp [zAB.l1] at h,fun _ _ _ _ _ _ _ _ r h=>by simp [zAB.j2] at h⟩
 | k + 1=>by
  obtain ⟨ih0,ih1,ih2⟩:=zAB.mono_l k
  refine ⟨?_,?_,?_⟩
  ·intro y0 y1 y2
   unfold zAB.l0
   exact qM @zAQ.mono
  ·intro y0 y1 y2 y3 y4 y5 y6 y7
   unfold zAB.l1
   exact qM @zAQ.mono
  ·intro y0 y1 y2 y3 y4 y5 y6 y7
   unfold zAB.j2
   exact qM @zAQ.mono
theorem zAB.mono:∀ a0 k,LeO (zAB.f k a0) (zAB.f (k + 1) a0):=by
 intro a0 k;obtain ⟨ih0,ih1,ih2⟩:=zAB.mono_l k;unfold zAB.f;exact qM @zAQ.mono
set_option maxHeartbeats 8000000 in
set_option maxRecDepth 100000 in
theorem zAB.calls (k:Nat) (A0:Option Addr) (c0:Nat) (l0:List (S113)) (r:Int) (w:World) (hr0:Kd.C k113 w A0 l0.length l0) (hc0:l0.length ≤ c0) (h:zAB.f k l0 = some r) :
  Calls Tryz.prog 94 #[.slice A0 l0.length c0] w fun e w'=>e = .returned (.int .i64 r)∧Below w.heap.size w w':=by
 have hu113:=Tryz.underlying113;have HR0:=zA hr0;have HC0:=zA hc0;clear hr0 hc0;have HB:=zA (Below.refl w.heap.size w);have H:(if (l0.length:Int) > 6 then (some 1) else (zAB.l0 k l0 1 0)) = some r:=h;clear h;by_cases c2:(l0.length:Int) > 6
 ·rw [if_pos c2] at H;have c2b0:decide (6 < (l0.length:Int)) = true:=zQ c2;have c2b1:decide (6 < l0.length) = true:=zQ (by omega);clear c2;obtain rfl:=Option.some.inj H;go_enter Tryz.func94,Tryz.ntmps94;go_wp2;go_ret;exact ⟨qe,qb⟩
 ·rw [if_neg c2] at H;have c2b0:decide (6 < (l0.length:Int)) = false:=zR c2;have c2b1:decide (6 < l0.length) = false:=zR (by omega);clear c2;have H':=zA H;clear H;go_enter Tryz.func94,Tryz.ntmps94;go_wp2;go_loopg [3,4] k (fun kq v3 v4 w'=>∃ (x3_1:Int) (x4_1:Int),v3 = .int .i64 x3_1∧v4 = .int .i64 x4_1∧Aside0 (zAB.l0 kq l0 x3_1 x4_1 = some r)∧Aside0 (kq ≤ k)∧Aside0 (Below w.heap.size w w'))
  case atStart=>exact ⟨(1),(0),qr,qr,H',⟨Nat.le_refl _⟩,⟨qb⟩⟩
  case round =>
   clear H';obtain ⟨x3_1,x4_1,rfl,rfl,HA,HK1,HB⟩:=hrel;cases gk with
   | zero=>exact absurd HA.out (by simp [zAB.l0])
   | succ k1 =>
    have H:=HA.out;clear HA;simp only [zAB.l0] at H;rcases qj H with ⟨c3b0,H⟩|⟨c3b0,H⟩
    ·rcases qj H with ⟨c4b0,H⟩|⟨c4,H⟩
     ·replace H:=zb.mp H;obtain ⟨t463,A50,H⟩:=H;(try dsimp only at H);have A5:=zA A50;clear A50;by_cases c6:t463 = true
      ·subst c6;rw [if_pos rfl] at H
       have H':=zA H;clear H;have p461:0 ≤ (x4_1:Int):=qd;have q461:x4_1 < (l0.length:Int):=qd;obtain ⟨ad461,e461,hx461_0,hx461_1,hx461_2,hx461_3⟩:=zBO (qW HR0 HB) x4_1 p461 q461;cases e461;replace p461:=qT p461;replace q461:=qT q461;go_wp2_with (first|((with_reducible refine zV (N:=5) rfl ?_);refine bQ 5 (cs:=#[.string (⟨#[]⟩:ByteArray),.int .i64 0,.int .i64 0,.int .i64 0]) (t:=113) ?_;intro gb462 hg w7 BK462 hb;have GW462:=zA (qg hg);replace HB:=zA (zH qb hb);clear hb hg;obtain ⟨hcz8_0,hcz8_1,hcz8_2,hcz8_3⟩:=q4 BK462;have hfz8_0:=zJ BK462.out)|(go_at_call 122;(with_reducible refine (zAQ.calls k1 ((zAO l0 x4_1).f0) true _ A5.out).mono ?_);rintro e w' ⟨rfl,⟨nd,rfl⟩⟩;(try first|exact ⟨rfl,_,World.drewN_drewN _ _ _⟩|exact ⟨rfl,_,Eq.trans (World.drewN_drewN _ _ _) (congrArg (World.drewN _) (Nat.add_assoc _ _ _))⟩)));go_loopg [6] k1 (fun kq v6 w'=>∃ (x6_2:Int),v6 = .int .i64 x6_2∧Aside0 (zAB.l1 kq l0 x3_1 x4_1 x6_2 ((zAO l0 x4_1).f0) ((zAO l0 x4_1).f1) ((zAO l0 x4_1).f2) ((zAO l0 x4_1).f3) = some r)∧Aside0 (kq ≤ k1)∧Aside0 (w'.heap[gb462]? = some (.cells #[.string ((zAO l0 x4_1).f0),.int .i64 ((zAO l0 x4_1).f1),.int .i64 ((zAO l0 x4_1).f2),.int .i64 ((zAO l0 x4_1).f3)] 113 (0,0)))∧Aside0 (Below w.heap.size w w'))
       case atStart=>exact ⟨(0),qr,H',⟨Nat.le_refl _⟩,⟨by (with_reducible repeat (first|refine zL ?_ _|refine zM ?_|refine zK ?_ _));refine zO (cs:=#[.string ((zAO l0 x4_1).f0),.int .i64 ((zAO l0 x4_1).f1),.int .i64 ((zAO l0 x4_1).f2),.int .i64 0]) ?_ 3 _ rfl;(with_reducible repeat (first|refine zL ?_ _|refine zM ?_|refine zK ?_ _));refine zO (cs:=#[.string ((zAO l0 x4_1).f0),.int .i64 ((zAO l0 x4_1).f1),.int .i64 0,.int .i64 0]) ?_ 2 _ rfl;(with_reducible repeat (first|refine zL ?_ _|refine zM ?_|refine zK ?_ _));refine zO (cs:=#[.string ((zAO l0 x4_1).f0),.int .i64 0,.int .i64 0,.int .i64 0]) ?_ 1 _ rfl;(with_reducible repeat (first|refine zL ?_ _|refine zM ?_|refine zK ?_ _));refine zO (cs:=#[.string (⟨#[]⟩:ByteArray),.int .i64 0,.int .i64 0,.int .i64 0]) ?_ 0 _ rfl;(with_reducible repeat (first|refine zL ?_ _|refine zM ?_|refine zK ?_ _));exact BK462.out⟩,⟨qb⟩⟩
       case round =>
        clear H';obtain ⟨x6_2,rfl,HA,HK2,BK462,HB⟩:=hrel;cases gk with
        | zero=>exact absurd HA.out (by simp [zAB.l1])
        | succ k2 =>
         have H:=HA.out;clear HA;simp only [zAB.l1] at H;rcases qj H with ⟨c9b0,H⟩|⟨c9b0,H⟩
         ·rcases qj H with ⟨c10b0,H⟩|⟨c10,H⟩
          ·rcases qj H with ⟨c11b0,H⟩|⟨c11,H⟩
           ·by_cases c12:((zAO l0 x6_2).f0).toList = ((zAO l0 x4_1).f0).toList
            ·rw [if_pos c12] at H;have c12b0:(((zAO l0 x6_2).f0).toList == ((zAO l0 x4_1).f0).toList) = true:=beq_iff_eq.mpr c12;have c12b1:(((zAO l0 x6_2).f0).toList != ((zAO l0 x4_1).f0).toList) = false:=bne_eq_false_iff_eq.mpr c12;clear c12;obtain rfl:=Option.some.inj H;have p464:0 ≤ (x6_2:Int):=qd;have q464:x6_2 < (l0.length:Int):=qd;obtain ⟨ad464,e464,hx464_0,hx464_1,hx464_2,hx464_3⟩:=zBO (qW HR0 HB) x6_2 p464 q464;obtain rfl:ad461 = ad464:=(by injection e464);replace p464:=qT p464;replace q464:=qT q464;obtain ⟨hcz13_0,hcz13_1,hcz13_2,hcz13_3⟩:=q4 BK462;have hfz13_0:=zJ BK462.out;go_wp2;(repeat (go_quiet (fail);try go_wp2));go_ret;exact ⟨qe,qb⟩
            ·rw [if_neg c12] at H;have c12b0:(((zAO l0 x6_2).f0).toList == ((zAO l0 x4_1).f0).toList) = false:=beq_eq_false_iff_ne.mpr c12;have c12b1:(((zAO l0 x6_2).f0).toList != ((zAO l0 x4_1).f0).toList) = true:=bne_iff_ne.mpr c12;have H':=zA H;clear H;have p464:0 ≤ (x6_2:Int):=qd;have q464:x6_2 < (l0.length:Int):=qd;obtain ⟨ad464,e464,hx464_0,hx464_1,hx464_2,hx464_3⟩:=zBO (qW HR0 HB) x6_2 p464 q464;obtain rfl:ad461 = ad464:=(by injection e464);replace p464:=qT p464;replace q464:=qT q464;obtain ⟨hcz14_0,hcz14_1,hcz14_2,hcz14_3⟩:=q4 BK462;have hfz14_0:=zJ BK462.out;go_wp2;(repeat (go_quiet (fail);try go_wp2));go_roundg k2
             case measure=>have:=HK1.out;have:=HK2.out;omega
             case rel=>exact ⟨(wrap64 (x6_2 + 1)),qr,H',⟨qp HK1 HK2⟩,⟨qk BK462⟩,⟨qb⟩⟩
           ·nomatch H
          ·nomatch H
         ·have HC15:=zA H;clear H;go_upto_region 15 with (fail);go_cut [58] (fun v58 wc=>∃ (kq:Nat) (x58_14:Bool),v58 = .bool x58_14∧Aside0 (zAB.j2 kq l0 x3_1 x4_1 x58_14 ((zAO l0 x4_1).f0) ((zAO l0 x4_1).f1) ((zAO l0 x4_1).f2) ((zAO l0 x4_1).f3) = some r)∧Aside0 (kq ≤ k2)∧Aside0 (wc.heap[gb462]? = some (.cells #[.string ((zAO l0 x4_1).f0),.int .i64 ((zAO l0 x4_1).f1),.int .i64 ((zAO l0 x4_1).f2),.int .i64 ((zAO l0 x4_1).f3)] 113 (0,0)))∧Aside0 (Below w.heap.size w wc))
          case first =>
           have H:=HC15.out;clear HC15;replace H:=zb.mp H;obtain ⟨t465,A160,H⟩:=H;(try dsimp only at H);have A16:=zA A160;clear A160;by_cases c17:t465 = true
           ·subst c17;rw [if_pos rfl] at H
            replace H:=zb.mp H;obtain ⟨t466,A180,H⟩:=H;(try dsimp only at H);have A18:=zA A180;clear A180;by_cases c19:t466 = true
            ·subst c19;rw [if_pos rfl] at H
             replace H:=zb.mp H;obtain ⟨t467,A200,H⟩:=H;(try dsimp only at H);have A20:=zA A200;clear A200;have H':=zA H;clear H;obtain ⟨hcz21_0,hcz21_1,hcz21_2,hcz21_3⟩:=q4 BK462;have hfz21_0:=zJ BK462.out;go_wp2_with (first|(go_at_call 29;(with_reducible refine (zAE.calls ((zAO l0 x4_1).f1) (-1000) 1000 true _ A16.out).mono ?_);rintro e w' ⟨rfl,⟨nd,rfl⟩⟩;(try first|exact ⟨rfl,_,World.drewN_drewN _ _ _⟩|exact ⟨rfl,_,Eq.trans (World.drewN_drewN _ _ _) (congrArg (World.drewN _) (Nat.add_assoc _ _ _))⟩))|(go_at_call 29;(with_reducible refine (zAE.calls ((zAO l0 x4_1).f2) ((zAO l0 x4_1).f1) 1000 true _ A18.out).mono ?_);rintro e w' ⟨rfl,⟨nd,rfl⟩⟩;(try first|exact ⟨rfl,_,World.drewN_drewN _ _ _⟩|exact ⟨rfl,_,Eq.trans (World.drewN_drewN _ _ _) (congrArg (World.drewN _) (Nat.add_assoc _ _ _))⟩))|(go_at_call 29;(with_reducible refine (zAE.calls ((zAO l0 x4_1).f3) ((zAO l0 x4_1).f1) ((zAO l0 x4_1).f2) t467 _ A20.out).mono ?_);rintro e w' ⟨rfl,⟨nd,rfl⟩⟩;(try first|exact ⟨rfl,_,World.drewN_drewN _ _ _⟩|exact ⟨rfl,_,Eq.trans (World.drewN_drewN _ _ _) (congrArg (World.drewN _) (Nat.add_assoc _ _ _))⟩)));go_meet
             case rel=>exact ⟨_,(!t467),qr,H',⟨qp HK1 HK2⟩,⟨qk BK462⟩,⟨qb⟩⟩
            ·replace c19:=Bool.eq_false_iff.mpr c19;subst c19;rw [if_neg (show ¬ (false = true) by decide)] at H
             have H':=zA H;clear H;obtain ⟨hcz22_0,hcz22_1,hcz22_2,hcz22_3⟩:=q4 BK462;have hfz22_0:=zJ BK462.out;go_wp2_with (first|(go_at_call 29;(with_reducible refine (zAE.calls ((zAO l0 x4_1).f1) (-1000) 1000 true _ A16.out).mono ?_);rintro e w' ⟨rfl,⟨nd,rfl⟩⟩;(try first|exact ⟨rfl,_,World.drewN_drewN _ _ _⟩|exact ⟨rfl,_,Eq.trans (World.drewN_drewN _ _ _) (congrArg (World.drewN _) (Nat.add_assoc _ _ _))⟩))|(go_at_call 29;(with_reducible refine (zAE.calls ((zAO l0 x4_1).f2) ((zAO l0 x4_1).f1) 1000 false _ A18.out).mono ?_);rintro e w' ⟨rfl,⟨nd,rfl⟩⟩;(try first|exact ⟨rfl,_,World.drewN_drewN _ _ _⟩|exact ⟨rfl,_,Eq.trans (World.drewN_drewN _ _ _) (congrArg (World.drewN _) (Nat.add_assoc _ _ _))⟩)));go_meet
             case rel=>exact ⟨_,(true),qr,H',⟨qp HK1 HK2⟩,⟨qk BK462⟩,⟨qb⟩⟩
           ·replace c17:=Bool.eq_false_iff.mpr c17;subst c17;rw [if_neg (show ¬ (false = true) by decide)] at H
            have H':=zA H;clear H;obtain ⟨hcz23_0,hcz23_1,hcz23_2,hcz23_3⟩:=q4 BK462;have hfz23_0:=zJ BK462.out;go_wp2_with (first|(go_at_call 29;(with_reducible refine (zAE.calls ((zAO l0 x4_1).f1) (-1000) 1000 false _ A16.out).mono ?_);rintro e w' ⟨rfl,⟨nd,rfl⟩⟩;(try first|exact ⟨rfl,_,World.drewN_drewN _ _ _⟩|exact ⟨rfl,_,Eq.trans (World.drewN_drewN _ _ _) (congrArg (World.drewN _) (Nat.add_assoc _ _ _))⟩)));go_meet
            case rel=>exact ⟨_,(true),qr,H',⟨qp HK1 HK2⟩,⟨qk BK462⟩,⟨qb⟩⟩
          case rest =>
           clear HC15;obtain ⟨kq,x58_14,rfl,HA,HJ14,BK462,HB⟩:=hcut;cases kq with
           | zero=>exact absurd HA.out (by simp [zAB.j2])
           | succ kj14 =>
            have H:=HA.out;clear HA;simp only [zAB.j2] at H;by_cases c24:x58_14 = true
            ·subst c24;rw [if_pos rfl] at H
             obtain rfl:=Option.some.inj H;go_wp2;go_ret;exact ⟨qe,qb⟩
            ·replace c24:=Bool.eq_false_iff.mpr c24;subst c24;rw [if_neg (show ¬ (false = true) by decide)] at H
             by_cases c25:(wrap64 (((zAO l0 x4_1).f2) - ((zAO l0 x4_1).f1))) > 63
             ·rw [if_pos c25] at H;have c25b0:decide (63 < (wrap64 (((zAO l0 x4_1).f2) - ((zAO l0 x4_1).f1)))) = true:=zQ c25;clear c25;obtain rfl:=Option.some.inj H;obtain ⟨hcz26_0,hcz26_1,hcz26_2,hcz26_3⟩:=q4 BK462;have hfz26_0:=zJ BK462.out;go_wp2;go_ret;exact ⟨qe,qb⟩
             ·rw [if_neg c25] at H;have c25b0:decide (63 < (wrap64 (((zAO l0 x4_1).f2) - ((zAO l0 x4_1).f1)))) = false:=zR c25;clear c25;by_cases c27:(wrap64 (x3_1 * (wrap64 ((wrap64 (((zAO l0 x4_1).f2) - ((zAO l0 x4_1).f1))) + 1)))) > 4096
              ·rw [if_pos c27] at H;have c27b0:decide (4096 < (wrap64 (x3_1 * (wrap64 ((wrap64 (((zAO l0 x4_1).f2) - ((zAO l0 x4_1).f1))) + 1))))) = true:=zQ c27;clear c27;obtain rfl:=Option.some.inj H;obtain ⟨hcz28_0,hcz28_1,hcz28_2,hcz28_3⟩:=q4 BK462;have hfz28_0:=zJ BK462.out;go_wp2;go_ret;exact ⟨qe,qb⟩
              ·rw [if_neg c27] at H;have c27b0:decide (4096 < (wrap64 (x3_1 * (wrap64 ((wrap64 (((zAO l0 x4_1).f2) - ((zAO l0 x4_1).f1))) + 1))))) = false:=zR c27;clear c27;have H':=zA H;clear H;obtain ⟨hcz29_0,hcz29_1,hcz29_2,hcz29_3⟩:=q4 BK462;have hfz29_0:=zJ BK462.out;go_wp2;go_roundg kj14
               case measure=>have:=HK1.out;have:=HK2.out;have:=HJ14.out;omega
               case rel=>exact ⟨(wrap64 (x3_1 * (wrap64 ((wrap64 (((zAO l0 x4_1).f2) - ((zAO l0 x4_1).f1))) + 1)))),(wrap64 (x4_1 + 1)),qr,qr,H',⟨qq HK1 HK2 HJ14⟩,⟨qb⟩⟩
      ·replace c6:=Bool.eq_false_iff.mpr c6;subst c6;rw [if_neg (show ¬ (false = true) by decide)] at H
       obtain rfl:=Option.some.inj H;have p461:0 ≤ (x4_1:Int):=qd;have q461:x4_1 < (l0.length:Int):=qd;obtain ⟨ad461,e461,hx461_0,hx461_1,hx461_2,hx461_3⟩:=zBO (qW HR0 HB) x4_1 p461 q461;cases e461;replace p461:=qT p461;replace q461:=qT q461;go_wp2_with (first|((with_reducible refine zV (N:=5) rfl ?_);refine bQ 5 (cs:=#[.string (⟨#[]⟩:ByteArray),.int .i64 0,.int .i64 0,.int .i64 0]) (t:=113) ?_;intro gb462 hg w30 BK462 hb;have GW462:=zA (qg hg);replace HB:=zA (zH qb hb);clear hb hg;obtain ⟨hcz31_0,hcz31_1,hcz31_2,hcz31_3⟩:=q4 BK462;have hfz31_0:=zJ BK462.out)|(go_at_call 122;(with_reducible refine (zAQ.calls k1 ((zAO l0 x4_1).f0) false _ A5.out).mono ?_);rintro e w' ⟨rfl,⟨nd,rfl⟩⟩;(try first|exact ⟨rfl,_,World.drewN_drewN _ _ _⟩|exact ⟨rfl,_,Eq.trans (World.drewN_drewN _ _ _) (congrArg (World.drewN _) (Nat.add_assoc _ _ _))⟩)));go_ret;exact ⟨qe,qb⟩
     ·nomatch H
    ·obtain rfl:=Option.some.inj H;go_wp2;go_ret;exact ⟨qe,qb⟩
end Go.Proofs.YtgdijfhdpgdanaaGreatDoor.B
