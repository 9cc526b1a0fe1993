import Derived.Test.YtgdijfhdpgdanaaGreatDoorKProductBehindsG35
import Derived.Test.YtgdijfhdpgdanaaGreatDoorKProductBehindsG28
namespace Go.Proofs.YtgdijfhdpgdanaaGreatDoor.B
open Go.Proofs.YtgdijfhdpgdanaaGreatDoor.Al
open Option renaming bind_eq_some_iff → zb
open Go.Proofs.YtgdijfhdpgdanaaGreatDoorW.PrintWords renaming below_step → zH, blk_frozen → zJ, blk_alloc → zK, blk_drewN → zL, blk_drew → zM, blk_put → zO, gate_dst → zV, below_drew1 → zE, blk_cell → zI, gate_callee → zU
open List renaming setIfInBounds_toArray → zX, set_cons_zero → zY, set_cons_succ → zZ
open Go.Proofs.YtgdijfhdpgdanaaGreatDoor.Sq Go.RowKit Go.Proofs.YtgdijfhdpgdanaaGreatDoorW.PrintWords Go.Proofs.YtgdijfhdpgdanaaGreatDoorW.PrintLast Go.Proofs.YtgdijfhdpgdanaaGreatDoorW.PrintMore
attribute [local go_sem] max2_int min2_int max_two min_two max_three min_three max_four min_four
set_option linter.unusedVariables false
set_option linter.unusedSimpArgs false
mutual
def zAG.l0:Nat → Int → Int → Int → List (S96) → List (S104) → Option (Int)
 | 0,_,_,_,_,_=>none
 | k + 1,x1,x5,x6,x526000,x526001=>if x6 < (x526001.length:Int) then (zAG.j1 k x1 x5 x6 (x5 == 0) x526000 x526001) else (zAG.j1 k x1 x5 x6 false x526000 x526001)
def zAG.j1:Nat → Int → Int → Int → Bool → List (S96) → List (S104) → Option (Int)
 | 0,_,_,_,_,_,_=>none
 | k + 1,x1,x5,x6,x25,x526000,x526001=>if x25 = true then (if 0 ≤ x6 then (if x6 < (x526001.length:Int) then ((zAE.f ((zAc x526001 x6).f0) 0 (wrap64 (x1 - 1))).bind fun t529=>(if t529 = true then (zAG.l1 k x1 x6 0 x526000 x526001 ((zAc x526001 x6).f0) ((zAc x526001 x6).f1)) else (some 2))) else (none)) else (none)) else (some x5)
def zAG.l1:Nat → Int → Int → Int → List (S96) → List (S104) → Int → List (S96) → Option (Int)
 | 0,_,_,_,_,_,_,_=>none
 | k + 1,x1,x6,x8,x526000,x526001,x529000,x529001=>if x8 < x6 then (if 0 ≤ x8 then (if x8 < (x526001.length:Int) then (if ((zAc x526001 x8).f0) = x529000 then (some 7) else (zAG.l1 k x1 x6 (wrap64 (x8 + 1)) x526000 x526001 x529000 x529001)) else (none)) else (none)) else ((zAq.f k x529001 x1 false).bind fun t531=>(zAG.l0 k x1 t531 (wrap64 (x6 + 1)) x526000 x526001))
end
def zAG.f (k:Nat) (l0_0:List (S96)) (l0_1:List (S104)) (a1:Int):Option (Int):=if (l0_1.length:Int) > 6 then (some 1) else ((zAq.f k l0_0 a1 true).bind fun t526=>(zAG.l0 k a1 t526 0 l0_0 l0_1))
theorem zAG.mono_l:∀ k,(∀ y0 y1 y2 y3 y4,LeO (zAG.l0 k y0 y1 y2 y3 y4) (zAG.l0 (k + 1) y0 y1 y2 y3 y4))∧(∀ y0 y1 y2 y3 y4 y5,LeO (zAG.j1 k y0 y1 y2 y3 y4 y5) (zAG.j1 (k + 1) y0 y1 y2 y3 y4 y5))∧(∀ y0 y1 y2 y3 y4 y5 y6,LeO (zAG.l1 k y0 y1 y2 y3 y4 y5 y6) (zAG.l1 (k + 1) y0 y1 y2 y3 y4 y5 y6))
 | 0=>⟨fun _ _ _ _ _ r h=>by simp [zAG.l0] at h,fun _ _ _ _ _ _ r h=>by simp [zAG.j1] at h,fun _ _ _ _ _ _ _ r h=>by simp [zAG.l1] at h⟩
 | k + 1=>by
  obtain ⟨ih0,ih1,ih2⟩:=zAG.mono_l k
  refine ⟨?_,?_,?_⟩
  ·intro y0 y1 y2 y3 y4
   unfold zAG.l0
   exact qM @zAq.mono
  ·intro y0 y1 y2 y3 y4 y5
   unfold zAG.j1
   exact qM @zAq.mono
  ·intro y0 y1 y2 y3 y4 y5 y6
   unfold zAG.l1
   exact qM @zAq.mono
theorem zAG.mono:∀ a0 a1 a2 k,LeO (zAG.f k a0 a1 a2) (zAG.f (k + 1) a0 a1 a2):=by
 intro a0 a1 a2 k;obtain ⟨ih0,ih1,ih2⟩:=zAG.mono_l k;unfold zAG.f;exact qM @zAq.mono
set_option maxHeartbeats 8000000 in
set_option maxRecDepth 100000 in
theorem zAG.calls (k:Nat) (A0_0:Option Addr) (c0_0:Nat) (l0_0:List (S96)) (A0_1:Option Addr) (c0_1:Nat) (l0_1:List (S104)) (a1:Int) (r:Int) (w:World) (hr0_0:Kd.C k96 w A0_0 l0_0.length l0_0) (hc0_0:l0_0.length ≤ c0_0) (hr0_1:Kd.C k104 w A0_1 l0_1.length l0_1) (hc0_1:l0_1.length ≤ c0_1) (h:zAG.f k l0_0 l0_1 a1 = some r) :
  Calls Tryz.prog 95 #[.agg #[.slice A0_0 l0_0.length c0_0,.slice A0_1 l0_1.length c0_1],.int .i64 a1] w fun e w'=>e = .returned (.int .i64 r)∧Below w.heap.size w w':=by
 have hu102:=Tryz.underlying102;have hu104:=Tryz.underlying104;have HR0_0:=zA hr0_0;have HC0_0:=zA hc0_0;clear hr0_0 hc0_0;have HR0_1:=zA hr0_1;have HC0_1:=zA hc0_1;clear hr0_1 hc0_1;have HB:=zA (Below.refl w.heap.size w);have H:(if (l0_1.length:Int) > 6 then (some 1) else ((zAq.f k l0_0 a1 true).bind fun t526=>(zAG.l0 k a1 t526 0 l0_0 l0_1))) = some r:=h;clear h;by_cases c3:(l0_1.length:Int) > 6
 ·rw [if_pos c3] at H;have c3b0:decide (6 < (l0_1.length:Int)) = true:=zQ c3;have c3b1:decide (6 < l0_1.length) = true:=zQ (by omega);clear c3;obtain rfl:=Option.some.inj H;go_enter Tryz.func95,Tryz.ntmps95;go_wp2_with (first|((with_reducible refine zV (N:=2) rfl ?_);refine bQ 2 (cs:=#[.slice A0_0 l0_0.length c0_0,.slice A0_1 l0_1.length c0_1]) (t:=102) ?_;intro gb525 hg w4 BK525 hb;have GW525:=zA (qg hg);replace HB:=zA (zH qb hb);clear hb hg;obtain ⟨hcz5_0,hcz5_1⟩:=q2 BK525;have hfz5_0:=zJ BK525.out));go_ret;exact ⟨qe,qb⟩
 ·rw [if_neg c3] at H;have c3b0:decide (6 < (l0_1.length:Int)) = false:=zR c3;have c3b1:decide (6 < l0_1.length) = false:=zR (by omega);clear c3;replace H:=zb.mp H;obtain ⟨t526,A60,H⟩:=H;(try dsimp only at H);have A6:=zA A60;clear A60;have H':=zA H;clear H;go_enter Tryz.func95,Tryz.ntmps95;go_wp2_with (first|((with_reducible refine zV (N:=2) rfl ?_);refine bQ 2 (cs:=#[.slice A0_0 l0_0.length c0_0,.slice A0_1 l0_1.length c0_1]) (t:=102) ?_;intro gb525 hg w7 BK525 hb;have GW525:=zA (qg hg);replace HB:=zA (zH qb hb);clear hb hg;obtain ⟨hcz8_0,hcz8_1⟩:=q2 BK525;have hfz8_0:=zJ BK525.out)|(go_at_call 92;(with_reducible refine (zAq.calls k _ _ l0_0 a1 true t526 _ (qc HR0_0) HC0_0.out A6.out).mono ?_);rintro e w9 ⟨rfl,hb⟩;replace BK525:=qK BK525 hb;replace HB:=zA (zH qb hb);clear hb));go_loopg [5,6] k (fun kq v5 v6 w'=>∃ (x5_1:Int) (x6_1:Int),v5 = .int .i64 x5_1∧v6 = .int .i64 x6_1∧Aside0 (zAG.l0 kq a1 x5_1 x6_1 l0_0 l0_1 = some r)∧Aside0 (kq ≤ k)∧Aside0 (w'.heap[gb525]? = some (.cells #[(.slice A0_0 l0_0.length c0_0),(.slice A0_1 l0_1.length c0_1)] 102 (0,0)))∧Aside0 (Below w.heap.size w w'))
  case atStart=>exact ⟨(t526),(0),qr,qr,H',⟨Nat.le_refl _⟩,⟨qk BK525⟩,⟨qb⟩⟩
  case round =>
   clear H';obtain ⟨x5_1,x6_1,rfl,rfl,HA,HK1,BK525,HB⟩:=hrel;cases gk with
   | zero=>exact absurd HA.out (by simp [zAG.l0])
   | succ k1 =>
    have H:=HA.out;clear HA;simp only [zAG.l0] at H;have HC10:=zA H;clear H;go_upto_region 5 with (fail);go_cut [25] (fun v25 wc=>∃ (kq:Nat) (x25_9:Bool),v25 = .bool x25_9∧Aside0 (zAG.j1 kq a1 x5_1 x6_1 x25_9 l0_0 l0_1 = some r)∧Aside0 (kq ≤ k1)∧Aside0 (wc.heap[gb525]? = some (.cells #[(.slice A0_0 l0_0.length c0_0),(.slice A0_1 l0_1.length c0_1)] 102 (0,0)))∧Aside0 (Below w.heap.size w wc))
    case first =>
     have H:=HC10.out;clear HC10;rcases qj H with ⟨c11b0,H⟩|⟨c11b0,H⟩
     ·(first|rw [c11b0]|(simp only [i64_w,i32_w];rw [c11b0])|skip);have H':=zA H;clear H;obtain ⟨hcz12_0,hcz12_1⟩:=q2 BK525;have hfz12_0:=zJ BK525.out;go_wp2;go_meet
      case rel=>exact ⟨_,((x5_1 == 0)),qr,H',⟨qo HK1⟩,⟨qk BK525⟩,⟨qb⟩⟩
     ·(first|rw [c11b0]|(simp only [i64_w,i32_w];rw [c11b0])|skip);have H':=zA H;clear H;obtain ⟨hcz13_0,hcz13_1⟩:=q2 BK525;have hfz13_0:=zJ BK525.out;go_wp2;go_meet
      case rel=>exact ⟨_,(false),qr,H',⟨qo HK1⟩,⟨qk BK525⟩,⟨qb⟩⟩
    case rest =>
     clear HC10;obtain ⟨kq,x25_9,rfl,HA,HJ9,BK525,HB⟩:=hcut;cases kq with
     | zero=>exact absurd HA.out (by simp [zAG.j1])
     | succ kj9 =>
      have H:=HA.out;clear HA;simp only [zAG.j1] at H;by_cases c14:x25_9 = true
      ·subst c14;rw [if_pos rfl] at H
       rcases qj H with ⟨c15b0,H⟩|⟨c15,H⟩
       ·rcases qj H with ⟨c16b0,H⟩|⟨c16,H⟩
        ·replace H:=zb.mp H;obtain ⟨t529,A170,H⟩:=H;(try dsimp only at H);have A17:=zA A170;clear A170;by_cases c18:t529 = true
         ·subst c18;rw [if_pos rfl] at H
          have H':=zA H;clear H;obtain ⟨hcz19_0,hcz19_1⟩:=q2 BK525;have hfz19_0:=zJ BK525.out;have p527:0 ≤ (x6_1:Int):=qd;have q527:x6_1 < (l0_1.length:Int):=qd;obtain ⟨ad527,A527_1,c527_1,e527,hx527_0,hx527_1,hl527_1,hi527_1⟩:=zBR HR0_1.out x6_1 p527 q527;cases e527;replace hx527_0:=qy HB hx527_0;replace hx527_1:=qy HB hx527_1;have HR527_1:=zA hi527_1;have HC527_1:=zA hl527_1;clear hi527_1 hl527_1;replace p527:=qT p527;replace q527:=qT q527;go_wp2_with (first|((with_reducible refine zV (N:=7) rfl ?_);refine bQ 7 (cs:=#[.int .i64 0,.slice none 0 0]) (t:=104) ?_;intro gb528 hg w20 BK528 hb;have GW528:=zA (qg hg);replace HB:=zA (zH qb hb);have NB525_528:=zA (qn hg BK525);have NB528_525:=zA ((qn hg BK525).symm);replace BK525:=qK BK525 hb;clear hb hg;have hnb21:=NB528_525.out;have hnc21:=NB525_528.out;obtain ⟨hcz22_0,hcz22_1⟩:=q2 BK528;have hfz22_0:=zJ BK528.out)|(go_at_call 29;(with_reducible refine (zAE.calls ((zAc l0_1 x6_1).f0) 0 (wrap64 (a1 - 1)) true _ A17.out).mono ?_);rintro e w' ⟨rfl,⟨nd,rfl⟩⟩;(try first|exact ⟨rfl,_,World.drewN_drewN _ _ _⟩|exact ⟨rfl,_,Eq.trans (World.drewN_drewN _ _ _) (congrArg (World.drewN _) (Nat.add_assoc _ _ _))⟩)));go_loopg [8] kj9 (fun kq v8 w'=>∃ (x8_3:Int),v8 = .int .i64 x8_3∧Aside0 (zAG.l1 kq a1 x6_1 x8_3 l0_0 l0_1 ((zAc l0_1 x6_1).f0) ((zAc l0_1 x6_1).f1) = some r)∧Aside0 (kq ≤ kj9)∧Aside0 (w'.heap[gb525]? = some (.cells #[(.slice A0_0 l0_0.length c0_0),(.slice (some ad527) l0_1.length c0_1)] 102 (0,0)))∧Aside0 (w'.heap[gb528]? = some (.cells #[.int .i64 ((zAc l0_1 x6_1).f0),(.slice A527_1 ((zAc l0_1 x6_1).f1).length c527_1)] 104 (0,0)))∧Aside0 (Below w.heap.size w w'))
          case atStart=>exact ⟨(0),qr,H',⟨Nat.le_refl _⟩,⟨by (with_reducible repeat (first|refine zL ?_ _|refine zM ?_|refine zK ?_ _));refine blk_far ?_ NB525_528.out _;(with_reducible repeat (first|refine zL ?_ _|refine zM ?_|refine zK ?_ _));refine blk_far ?_ NB525_528.out _;(with_reducible repeat (first|refine zL ?_ _|refine zM ?_|refine zK ?_ _));exact BK525.out⟩,⟨by (with_reducible repeat (first|refine zL ?_ _|refine zM ?_|refine zK ?_ _));refine zO (cs:=#[.int .i64 ((zAc l0_1 x6_1).f0),.slice none 0 0]) ?_ 1 _ rfl;(with_reducible repeat (first|refine zL ?_ _|refine zM ?_|refine zK ?_ _));refine zO (cs:=#[.int .i64 0,.slice none 0 0]) ?_ 0 _ rfl;(with_reducible repeat (first|refine zL ?_ _|refine zM ?_|refine zK ?_ _));exact BK528.out⟩,⟨qb⟩⟩
          case round =>
           clear H';obtain ⟨x8_3,rfl,HA,HK3,BK525,BK528,HB⟩:=hrel;cases gk with
           | zero=>exact absurd HA.out (by simp [zAG.l1])
           | succ k3 =>
            have H:=HA.out;clear HA;simp only [zAG.l1] at H;rcases qj H with ⟨c23b0,H⟩|⟨c23b0,H⟩
            ·rcases qj H with ⟨c24b0,H⟩|⟨c24,H⟩
             ·rcases qj H with ⟨c25b0,H⟩|⟨c25,H⟩
              ·rcases qE H with ⟨c26b0,c26b1,H⟩|⟨c26,c26b0,c26b1,H⟩
               ·obtain rfl:=Option.some.inj H;have hnb27:=NB525_528.out;have hnc27:=NB528_525.out;obtain ⟨hcz28_0,hcz28_1⟩:=q2 BK525;have hfz28_0:=zJ BK525.out;have p530:0 ≤ (x8_3:Int):=qd;have q530:x8_3 < (l0_1.length:Int):=qd;obtain ⟨ad530,A530_1,c530_1,e530,hx530_0,hx530_1,hl530_1,hi530_1⟩:=zBR HR0_1.out x8_3 p530 q530;obtain rfl:ad527 = ad530:=(by injection e530);replace hx530_0:=qy HB hx530_0;replace hx530_1:=qy HB hx530_1;have HR530_1:=zA hi530_1;have HC530_1:=zA hl530_1;clear hi530_1 hl530_1;replace p530:=qT p530;replace q530:=qT q530;obtain ⟨hcz29_0,hcz29_1⟩:=q2 BK528;have hfz29_0:=zJ BK528.out;go_wp2;(repeat (go_quiet (fail);try go_wp2));go_ret;exact ⟨qe,qb⟩
               ·have H':=zA H;clear H;have hnb30:=NB525_528.out;have hnc30:=NB528_525.out;obtain ⟨hcz31_0,hcz31_1⟩:=q2 BK525;have hfz31_0:=zJ BK525.out;have p530:0 ≤ (x8_3:Int):=qd;have q530:x8_3 < (l0_1.length:Int):=qd;obtain ⟨ad530,A530_1,c530_1,e530,hx530_0,hx530_1,hl530_1,hi530_1⟩:=zBR HR0_1.out x8_3 p530 q530;obtain rfl:ad527 = ad530:=(by injection e530);replace hx530_0:=qy HB hx530_0;replace hx530_1:=qy HB hx530_1;have HR530_1:=zA hi530_1;have HC530_1:=zA hl530_1;clear hi530_1 hl530_1;replace p530:=qT p530;replace q530:=qT q530;obtain ⟨hcz32_0,hcz32_1⟩:=q2 BK528;have hfz32_0:=zJ BK528.out;go_wp2;(repeat (go_quiet (fail);try go_wp2));go_roundg k3
                case measure=>have:=HK1.out;have:=HJ9.out;have:=HK3.out;omega
                case rel=>exact ⟨(wrap64 (x8_3 + 1)),qr,H',⟨qq HK1 HJ9 HK3⟩,⟨qk BK525⟩,⟨qk BK528⟩,⟨qb⟩⟩
              ·nomatch H
             ·nomatch H
            ·replace H:=zb.mp H;obtain ⟨t531,A330,H⟩:=H;(try dsimp only at H);have A33:=zA A330;clear A330;have H':=zA H;clear H;have hnb34:=NB528_525.out;have hnc34:=NB525_528.out;obtain ⟨hcz35_0,hcz35_1⟩:=q2 BK528;have hfz35_0:=zJ BK528.out;go_wp2_with (first|(go_at_call 92;(with_reducible refine (zAq.calls k3 _ _ ((zAc l0_1 x6_1).f1) a1 false t531 _ (qc HR527_1) HC527_1.out A33.out).mono ?_);rintro e w36 ⟨rfl,hb⟩;replace BK525:=qK BK525 hb;replace BK528:=qK BK528 hb;replace HB:=zA (zH qb hb);clear hb));go_roundg k3
             case measure=>have:=HK1.out;have:=HJ9.out;have:=HK3.out;omega
             case rel=>exact ⟨(t531),(wrap64 (x6_1 + 1)),qr,qr,H',⟨qq HK1 HJ9 HK3⟩,⟨qk BK525⟩,⟨qb⟩⟩
         ·replace c18:=Bool.eq_false_iff.mpr c18;subst c18;rw [if_neg (show ¬ (false = true) by decide)] at H
          obtain rfl:=Option.some.inj H;obtain ⟨hcz37_0,hcz37_1⟩:=q2 BK525;have hfz37_0:=zJ BK525.out;have p527:0 ≤ (x6_1:Int):=qd;have q527:x6_1 < (l0_1.length:Int):=qd;obtain ⟨ad527,A527_1,c527_1,e527,hx527_0,hx527_1,hl527_1,hi527_1⟩:=zBR HR0_1.out x6_1 p527 q527;cases e527;replace hx527_0:=qy HB hx527_0;replace hx527_1:=qy HB hx527_1;have HR527_1:=zA hi527_1;have HC527_1:=zA hl527_1;clear hi527_1 hl527_1;replace p527:=qT p527;replace q527:=qT q527;go_wp2_with (first|((with_reducible refine zV (N:=7) rfl ?_);refine bQ 7 (cs:=#[.int .i64 0,.slice none 0 0]) (t:=104) ?_;intro gb528 hg w38 BK528 hb;have GW528:=zA (qg hg);replace HB:=zA (zH qb hb);have NB525_528:=zA (qn hg BK525);have NB528_525:=zA ((qn hg BK525).symm);replace BK525:=qK BK525 hb;clear hb hg;have hnb39:=NB528_525.out;have hnc39:=NB525_528.out;obtain ⟨hcz40_0,hcz40_1⟩:=q2 BK528;have hfz40_0:=zJ BK528.out)|(go_at_call 29;(with_reducible refine (zAE.calls ((zAc l0_1 x6_1).f0) 0 (wrap64 (a1 - 1)) false _ A17.out).mono ?_);rintro e w' ⟨rfl,⟨nd,rfl⟩⟩;(try first|exact ⟨rfl,_,World.drewN_drewN _ _ _⟩|exact ⟨rfl,_,Eq.trans (World.drewN_drewN _ _ _) (congrArg (World.drewN _) (Nat.add_assoc _ _ _))⟩)));go_ret;exact ⟨qe,qb⟩
        ·nomatch H
       ·nomatch H
      ·replace c14:=Bool.eq_false_iff.mpr c14;subst c14;rw [if_neg (show ¬ (false = true) by decide)] at H
       obtain rfl:=Option.some.inj H;go_wp2;go_ret;exact ⟨qe,qb⟩
def zAL.l0:Nat → Int → Int → List (S113) → List (S102) → Option (Int)
 | 0,_,_,_,_=>none
 | k + 1,x3,x4,x533000,x533001=>if x4 < (x533001.length:Int) then (if x3 = 0 then (if 0 ≤ x4 then ((zAG.f k ((zAh x533001 x4).f0) ((zAh x533001 x4).f1) (x533000.length:Int)).bind fun t535=>(zAL.l0 k t535 (wrap64 (x4 + 1)) x533000 x533001)) else (none)) else (some x3)) else (some x3)
def zAL.f (k:Nat) (l0_0:List (S113)) (l0_1:List (S102)):Option (Int):=(zAB.f k l0_0).bind fun t533=>(if t533 = 0 then (if (l0_1.length:Int) > 12 then (some 1) else (zAL.l0 k t533 0 l0_0 l0_1)) else (some t533))
theorem zAL.mono_l:∀ k,(∀ y0 y1 y2 y3,LeO (zAL.l0 k y0 y1 y2 y3) (zAL.l0 (k + 1) y0 y1 y2 y3))
 | 0=>fun _ _ _ _ r h=>by simp [zAL.l0] at h
 | k + 1=>by
  have ih0:=zAL.mono_l k
  ·intro y0 y1 y2 y3
   unfold zAL.l0
   exact qM (And.intro @zAG.mono @zAB.mono)
theorem zAL.mono:∀ a0 a1 k,LeO (zAL.f k a0 a1) (zAL.f (k + 1) a0 a1):=by
 intro a0 a1 k;have ih0:=zAL.mono_l k;unfold zAL.f;exact qM (And.intro @zAG.mono @zAB.mono)
def zAL.T9:Bool × List (List Nat × List Nat):=(true,[([],[]),([0],[0]),([],[]),([1,2],[1,2]),([3],[3]),([],[]),([5],[5]),([6],[6]),([4,7],[4,7]),([8,8,0,1,2,3,4,5,6,7,8],[8])])
def zAL.B9:List Nat:=[0,1,0,7,15,0,32,96,255,511]
theorem zAL.tab9:rtab .any (opsOf Tryz.f63 9) = zAL.T9:=by kernel_rfl
theorem zAL.bits9:waitsOk zAL.T9.2 zAL.B9 = true:=by kernel_rfl
set_option maxHeartbeats 8000000 in
set_option maxRecDepth 100000 in
theorem zAL.calls (k:Nat) (A0_0:Option Addr) (c0_0:Nat) (l0_0:List (S113)) (A0_1:Option Addr) (c0_1:Nat) (l0_1:List (S102)) (r:Int) (w:World) (hr0_0:Kd.C k113 w A0_0 l0_0.length l0_0) (hc0_0:l0_0.length ≤ c0_0) (hr0_1:Kd.C k102 w A0_1 l0_1.length l0_1) (hc0_1:l0_1.length ≤ c0_1) (h:zAL.f k l0_0 l0_1 = some r) :
  Calls Tryz.prog 63 #[.agg #[.slice A0_0 l0_0.length c0_0,.slice A0_1 l0_1.length c0_1]] w fun e w'=>e = .returned (.int .i64 r)∧Below w.heap.size w w':=by
 have hu25:=Tryz.underlying25;have hu102:=Tryz.underlying102;have HR0_0:=zA hr0_0;have HC0_0:=zA hc0_0;clear hr0_0 hc0_0;have HR0_1:=zA hr0_1;have HC0_1:=zA hc0_1;clear hr0_1 hc0_1;have HB:=zA (Below.refl w.heap.size w);have H:((zAB.f k l0_0).bind fun t533=>(if t533 = 0 then (if (l0_1.length:Int) > 12 then (some 1) else (zAL.l0 k t533 0 l0_0 l0_1)) else (some t533))) = some r:=h;clear h;replace H:=zb.mp H;obtain ⟨t533,A20,H⟩:=H;(try dsimp only at H);have A2:=zA A20;clear A20;rcases qE H with ⟨c3b0,c3b1,H⟩|⟨c3,c3b0,c3b1,H⟩
 ·by_cases c4:(l0_1.length:Int) > 12
  ·rw [if_pos c4] at H;have c4b0:decide (12 < (l0_1.length:Int)) = true:=zQ c4;have c4b1:decide (12 < l0_1.length) = true:=zQ (by omega);clear c4;obtain rfl:=Option.some.inj H;go_enter Tryz.func63,Tryz.ntmps63;go_wp2_with (first|((with_reducible refine zV (N:=1) rfl ?_);refine bQ 1 (cs:=#[.slice A0_0 l0_0.length c0_0,.slice A0_1 l0_1.length c0_1]) (t:=25) ?_;intro gb532 hg w5 BK532 hb;have GW532:=zA (qg hg);replace HB:=zA (zH qb hb);clear hb hg;obtain ⟨hcz6_0,hcz6_1⟩:=q2 BK532;have hfz6_0:=zJ BK532.out)|((with_reducible refine zU (f:=94) rfl ?_);refine gL (some 7) Tryz.func94 #[.slice A0_0 l0_0.length c0_0] ?_;(with_reducible refine (zAB.calls k _ _ l0_0 t533 _ (qc HR0_0) HC0_0.out A2.out).mono ?_);rintro e w7 ⟨rfl,hb⟩;refine ⟨_,rfl,?_⟩;replace BK532:=qK BK532 hb;replace HB:=zA (zH qb hb);clear hb;obtain ⟨hcz8_0,hcz8_1⟩:=q2 BK532;have hfz8_0:=zJ BK532.out));go_ret;exact ⟨qe,qb⟩
  ·rw [if_neg c4] at H;have c4b0:decide (12 < (l0_1.length:Int)) = false:=zR c4;have c4b1:decide (12 < l0_1.length) = false:=zR (by omega);clear c4;have H':=zA H;clear H;go_enter Tryz.func63,Tryz.ntmps63;go_wp2_with (first|((with_reducible refine zV (N:=1) rfl ?_);refine bQ 1 (cs:=#[.slice A0_0 l0_0.length c0_0,.slice A0_1 l0_1.length c0_1]) (t:=25) ?_;intro gb532 hg w9 BK532 hb;have GW532:=zA (qg hg);replace HB:=zA (zH qb hb);clear hb hg;obtain ⟨hcz10_0,hcz10_1⟩:=q2 BK532;have hfz10_0:=zJ BK532.out)|((with_reducible refine zU (f:=94) rfl ?_);refine gL (some 7) Tryz.func94 #[.slice A0_0 l0_0.length c0_0] ?_;(with_reducible refine (zAB.calls k _ _ l0_0 t533 _ (qc HR0_0) HC0_0.out A2.out).mono ?_);rintro e w11 ⟨rfl,hb⟩;refine ⟨_,rfl,?_⟩;replace BK532:=qK BK532 hb;replace HB:=zA (zH qb hb);clear hb;obtain ⟨hcz12_0,hcz12_1⟩:=q2 BK532;have hfz12_0:=zJ BK532.out));go_loopg [3,4] k (fun kq v3 v4 w'=>∃ (x3_1:Int) (x4_1:Int),v3 = .int .i64 x3_1∧v4 = .int .i64 x4_1∧Aside0 (zAL.l0 kq x3_1 x4_1 l0_0 l0_1 = some r)∧Aside0 (kq ≤ k)∧Aside0 (w'.heap[gb532]? = some (.cells #[(.slice A0_0 l0_0.length c0_0),(.slice A0_1 l0_1.length c0_1)] 25 (0,0)))∧Aside0 (Below w.heap.size w w'))
   case atStart=>exact ⟨(t533),(0),qr,qr,H',⟨Nat.le_refl _⟩,⟨qk BK532⟩,⟨qb⟩⟩
   case round =>
    clear H';obtain ⟨x3_1,x4_1,rfl,rfl,HA,HK1,BK532,HB⟩:=hrel;cases gk with
    | zero=>exact absurd HA.out (by simp [zAL.l0])
    | succ k1 =>
     have H:=HA.out;clear HA;simp only [zAL.l0] at H;rcases qj H with ⟨c13b0,H⟩|⟨c13b0,H⟩
     ·rcases qE H with ⟨c14b0,c14b1,H⟩|⟨c14,c14b0,c14b1,H⟩
      ·rcases qj H with ⟨c15b0,H⟩|⟨c15,H⟩
       ·replace H:=zb.mp H;obtain ⟨t535,A160,H⟩:=H;(try dsimp only at H);have A16:=zA A160;clear A160;have H':=zA H;clear H;obtain ⟨hcz17_0,hcz17_1⟩:=q2 BK532;have hfz17_0:=zJ BK532.out;(try go_wp2);replace BK532:=zA (zM BK532.out);replace HB:=zA (zE HB.out);have p534:0 ≤ (x4_1:Int):=qd;have q534:x4_1 < (l0_1.length:Int):=qd;obtain ⟨ad534,A534_0,c534_0,A534_1,c534_1,e534,hx534_0,hx534_1,hl534_0,hi534_0,hl534_1,hi534_1⟩:=zBV HR0_1.out x4_1 p534 q534;have hw534_1:=hx534_1;have hw534_0:=hx534_0;cases e534;replace hx534_0:=qy HB hx534_0;replace hx534_1:=qy HB hx534_1;have HR534_0:=zA hi534_0;have HC534_0:=zA hl534_0;clear hi534_0 hl534_0;have HR534_1:=zA hi534_1;have HC534_1:=zA hl534_1;clear hi534_1 hl534_1;replace p534:=qT p534;replace q534:=qT q534;refine start_ (n:=10) (S:=fun w'=>w'.cell? ⟨gb532,0,none⟩ = some (.slice A0_0 l0_0.length c0_0)∧w'.cell? ⟨gb532,1,none⟩ = some (.slice (some ad534) l0_1.length c0_1)∧w'.cell? (ad534.add ((x4_1).toNat * 2)) = some (.slice A534_0 ((zAh l0_1 x4_1).f0).length c534_0)∧w'.cell? ⟨(ad534.add ((x4_1).toNat * 2)).block,(ad534.add ((x4_1).toNat * 2)).off + 1,none⟩ = some (.slice A534_1 ((zAh l0_1 x4_1).f1).length c534_1)) (ds:=[]) #[false,false,false,false,false,false,false,false,false,false] (by kernel_rfl) rfl rfl ⟨(zI BK532.out 0).trans rfl,(zI BK532.out 1).trans rfl,(qy HB hw534_0 :),(qy HB hw534_1 :)⟩ (fun hHeld=>?_);refine with_tabW zAL.tab9 zAL.bits9 (fun HT_ HW_=>?_);generalize wr.drew = w18 at BK532 HB HR534_0 HR534_1 hx534_0 hx534_1 hHeld ⊢;refine pq 0 (some 26) HT_ ?_;refine pq 2 (some 28) HT_ ?_;refine pq 5 (some 31) HT_ ?_;refine tq 1 (some 27) HT_ HW_ hHeld ?_;refine pq 3 (some 29) HT_ ?_;refine tq 4 (some 30) HT_ HW_ hHeld ?_;refine tq 6 (some 32) HT_ HW_ hHeld ?_;refine pq 7 (some 33) HT_ ?_;refine oq 8 (some 34) HT_ (fun K hK=>?_);refine gq Tryz.func95 #[.agg #[.slice A534_0 ((zAh l0_1 x4_1).f0).length c534_0,.slice A534_1 ((zAh l0_1 x4_1).f1).length c534_1],.int .i64 (l0_0.length:Int)] ?_;(with_reducible refine (zAG.calls k1 _ _ ((zAh l0_1 x4_1).f0) _ _ ((zAh l0_1 x4_1).f1) (l0_0.length:Int) t535 _ (qc HR534_0) HC534_0.out (qc HR534_1) HC534_1.out A16.out).mono ?_);rintro e w19 ⟨rfl,hb⟩;refine ⟨_,rfl,?_⟩;replace BK532:=qK BK532 hb;replace HB:=zA (zH qb hb);(try clear hb);(try clear hb2);(try clear hk);(try clear hi);refine hK.out _ _ ⟨(zI BK532.out 0).trans rfl,(zI BK532.out 1).trans rfl,(qy HB hw534_0 :),(qy HB hw534_1 :)⟩ (fun hHeld=>?_);clear hK K;refine norm_ (a':=?_) ?_ ?_;rotate_left
        ·show Act.put _ (some 34) _ = _;simp only [Act.put,zX,zY,zZ,i64_w,i32_w];rfl
        refine pq 9 (some 3) HT_ ?_;refine done_ (done_of HT_.out (by kernel_rfl)) ?_;(try go_wp2);go_roundg k1
        case measure=>have:=HK1.out;omega
        case rel=>exact ⟨(t535),(wrap64 (x4_1 + 1)),qr,qr,H',⟨qo HK1⟩,⟨qk BK532⟩,⟨qb⟩⟩
       ·nomatch H
      ·obtain rfl:=Option.some.inj H;obtain ⟨hcz20_0,hcz20_1⟩:=q2 BK532;have hfz20_0:=zJ BK532.out;go_wp2;go_ret;exact ⟨qe,qb⟩
     ·obtain rfl:=Option.some.inj H;obtain ⟨hcz21_0,hcz21_1⟩:=q2 BK532;have hfz21_0:=zJ BK532.out;go_wp2;go_ret;exact ⟨qe,qb⟩
 ·obtain rfl:=Option.some.inj H;go_enter Tryz.func63,Tryz.ntmps63;go_wp2_with (first|((with_reducible refine zV (N:=1) rfl ?_);refine bQ 1 (cs:=#[.slice A0_0 l0_0.length c0_0,.slice A0_1 l0_1.length c0_1]) (t:=25) ?_;intro gb532 hg w22 BK532 hb;have GW532:=zA (qg hg);replace HB:=zA (zH qb hb);clear hb hg;obtain ⟨hcz23_0,hcz23_1⟩:=q2 BK532;have hfz23_0:=zJ BK532.out)|((with_reducible refine zU (f:=94) rfl ?_);refine gL (some 7) Tryz.func94 #[.slice A0_0 l0_0.length c0_0] ?_;(with_reducible refine (zAB.calls k _ _ l0_0 t533 _ (qc HR0_0) HC0_0.out A2.out).mono ?_);rintro e w24 ⟨rfl,hb⟩;refine ⟨_,rfl,?_⟩;replace BK532:=qK BK532 hb;replace HB:=zA (zH qb hb);clear hb));go_ret;exact ⟨qe,qb⟩
mutual
def zAC.j0:Nat → List (List (S96)) → Int → Bool → List (S113) → List (S102) → Option (Int)
 | 0,_,_,_,_,_=>none
 | k + 1,x1,x5,x15,x537000,x537001=>if x15 = true then (zAC.j1 k x1 1 x537000 x537001) else (zAC.j1 k x1 x5 x537000 x537001)
def zAC.j1:Nat → List (List (S96)) → Int → List (S113) → List (S102) → Option (Int)
 | 0,_,_,_,_=>none
 | k + 1,x1,x5,x537000,x537001=>zAC.l0 k x1 x5 0 x537000 x537001
def zAC.l0:Nat → List (List (S96)) → Int → Int → List (S113) → List (S102) → Option (Int)
 | 0,_,_,_,_,_=>none
 | k + 1,x1,x5,x6,x537000,x537001=>if x6 < (x1.length:Int) then (if x5 = 0 then (if 0 ≤ x6 then ((zAq.f k (zBB x1 x6) (x537000.length:Int) true).bind fun t539=>(zAC.l0 k x1 t539 (wrap64 (x6 + 1)) x537000 x537001)) else (none)) else (some x5)) else (some x5)
end
def zAC.f (k:Nat) (l0_0:List (S113)) (l0_1:List (S102)) (l1:List (List (S96))):Option (Int):=(zAL.f k l0_0 l0_1).bind fun t537=>(if t537 = 0 then (zAC.j0 k l1 t537 (decide ((l1.length:Int) > 6)) l0_0 l0_1) else (zAC.j0 k l1 t537 false l0_0 l0_1))
theorem zAC.mono_l:∀ k,(∀ y0 y1 y2 y3 y4,LeO (zAC.j0 k y0 y1 y2 y3 y4) (zAC.j0 (k + 1) y0 y1 y2 y3 y4))∧(∀ y0 y1 y2 y3,LeO (zAC.j1 k y0 y1 y2 y3) (zAC.j1 (k + 1) y0 y1 y2 y3))∧(∀ y0 y1 y2 y3 y4,LeO (zAC.l0 k y0 y1 y2 y3 y4) (zAC.l0 (k + 1) y0 y1 y2 y3 y4))
 | 0=>⟨fun _ _ _ _ _ r h=>by simp [zAC.j0] at h,fun _ _ _ _ r h=>by simp [zAC.j1] at h,fun _ _ _ _ _ r h=>by simp [zAC.l0] at h⟩
 | k + 1=>by
  obtain ⟨ih0,ih1,ih2⟩:=zAC.mono_l k
  refine ⟨?_,?_,?_⟩
  ·intro y0 y1 y2 y3 y4
   unfold zAC.j0
   exact qM (And.intro @zAL.mono @zAq.mono)
  ·intro y0 y1 y2 y3
   unfold zAC.j1
   exact qM (And.intro @zAL.mono @zAq.mono)
  ·intro y0 y1 y2 y3 y4
   unfold zAC.l0
   exact qM (And.intro @zAL.mono @zAq.mono)
theorem zAC.mono:∀ a0 a1 a2 k,LeO (zAC.f k a0 a1 a2) (zAC.f (k + 1) a0 a1 a2):=by
 intro a0 a1 a2 k;obtain ⟨ih0,ih1,ih2⟩:=zAC.mono_l k;unfold zAC.f;exact qM (And.intro @zAL.mono @zAq.mono)
def zAC.T7:Bool × List (List Nat × List Nat):=(true,[([],[]),([],[]),([0,1],[0,1]),([2],[2]),([],[]),([4],[4]),([5],[5]),([3,6],[3,6]),([7,7,0,1,2,3,4,5,6,7],[7])])
def zAC.B7:List Nat:=[0,0,3,7,0,16,48,127,255]
theorem zAC.tab7:rtab .any (opsOf Tryz.f61 7) = zAC.T7:=by kernel_rfl
theorem zAC.bits7:waitsOk zAC.T7.2 zAC.B7 = true:=by kernel_rfl
set_option maxHeartbeats 8000000 in
set_option maxRecDepth 100000 in
theorem zAC.calls (k:Nat) (A0_0:Option Addr) (c0_0:Nat) (l0_0:List (S113)) (A0_1:Option Addr) (c0_1:Nat) (l0_1:List (S102)) (A1:Option Addr) (c1:Nat) (l1:List (List (S96))) (r:Int) (w:World) (hr0_0:Kd.C k113 w A0_0 l0_0.length l0_0) (hc0_0:l0_0.length ≤ c0_0) (hr0_1:Kd.C k102 w A0_1 l0_1.length l0_1) (hc0_1:l0_1.length ≤ c0_1) (hr1:Kd.C (Kd.slice 96 k96) w A1 l1.length l1) (hc1:l1.length ≤ c1) (h:zAC.f k l0_0 l0_1 l1 = some r) :
  Calls Tryz.prog 61 #[.agg #[.slice A0_0 l0_0.length c0_0,.slice A0_1 l0_1.length c0_1],.slice A1 l1.length c1] w fun e w'=>e = .returned (.int .i64 r)∧Below w.heap.size w w':=by
 have hu25:=Tryz.underlying25;have HR0_0:=zA hr0_0;have HC0_0:=zA hc0_0;clear hr0_0 hc0_0;have HR0_1:=zA hr0_1;have HC0_1:=zA hc0_1;clear hr0_1 hc0_1;have HR1:=zA hr1;have HC1:=zA hc1;clear hr1 hc1;have HB:=zA (Below.refl w.heap.size w);have H:((zAL.f k l0_0 l0_1).bind fun t537=>(if t537 = 0 then (zAC.j0 k l1 t537 (decide ((l1.length:Int) > 6)) l0_0 l0_1) else (zAC.j0 k l1 t537 false l0_0 l0_1))) = some r:=h;clear h;replace H:=zb.mp H;obtain ⟨t537,A30,H⟩:=H;(try dsimp only at H);have A3:=zA A30;clear A30;have HC4:=zA H;clear H;go_enter Tryz.func61,Tryz.ntmps61;go_upto_region 2 with (first|((with_reducible refine zV (N:=2) rfl ?_);(try (refine gate_guard (by rfl) ?_;dsimp only));refine bQ 2 (cs:=#[.slice A0_0 l0_0.length c0_0,.slice A0_1 l0_1.length c0_1]) (t:=25) ?_;intro gb536 hg w5 BK536 hb;have GW536:=zA (qg hg);replace HB:=zA (zH qb hb);clear hb hg;obtain ⟨hcz6_0,hcz6_1⟩:=q2 BK536;have hfz6_0:=zJ BK536.out)|((with_reducible refine zU (f:=63) rfl ?_);refine gL (some 8) Tryz.func63 #[.agg #[.slice A0_0 l0_0.length c0_0,.slice A0_1 l0_1.length c0_1]] ?_;(with_reducible refine (zAL.calls k _ _ l0_0 _ _ l0_1 t537 _ (qc HR0_0) HC0_0.out (qc HR0_1) HC0_1.out A3.out).mono ?_);rintro e w7 ⟨rfl,hb⟩;refine ⟨_,rfl,?_⟩;replace BK536:=qK BK536 hb;replace HB:=zA (zH qb hb);clear hb));(try simp only [Act.put,zX,zY,zZ]);go_cut [15] (fun v15 wc=>∃ (kq:Nat) (x15_3:Bool),v15 = .bool x15_3∧Aside0 (zAC.j0 kq l1 t537 x15_3 l0_0 l0_1 = some r)∧Aside0 (kq ≤ k)∧Aside0 (wc.heap[gb536]? = some (.cells #[(.slice A0_0 l0_0.length c0_0),(.slice A0_1 l0_1.length c0_1)] 25 (0,0)))∧Aside0 (Below w.heap.size w wc))
 case first =>
  have H:=HC4.out;clear HC4;rcases qE H with ⟨c8b0,c8b1,H⟩|⟨c8,c8b0,c8b1,H⟩
  ·(first|rw [c8b0]|(simp only [i64_w,i32_w];rw [c8b0])|skip);have H':=zA H;clear H;go_wp2;go_meet
   case rel=>exact ⟨_,(decide ((l1.length:Int) > 6)),qr,H',⟨qm⟩,⟨qk BK536⟩,⟨qb⟩⟩
  ·(first|rw [c8b0]|(simp only [i64_w,i32_w];rw [c8b0])|skip);have H':=zA H;clear H;go_wp2;go_meet
   case rel=>exact ⟨_,(false),qr,H',⟨qm⟩,⟨qk BK536⟩,⟨qb⟩⟩
 case rest =>
  clear HC4;obtain ⟨kq,x15_3,rfl,HA,HJ3,BK536,HB⟩:=hcut;cases kq with
  | zero=>exact absurd HA.out (by simp [zAC.j0])
  | succ kj3 =>
   have H:=HA.out;clear HA;simp only [zAC.j0] at H;have HC9:=zA H;clear H;go_upto_if 15 with (fail);go_cut [5] (fun v5 wc=>∃ (kq:Nat) (x5_8:Int),v5 = .int .i64 x5_8∧Aside0 (zAC.j1 kq l1 x5_8 l0_0 l0_1 = some r)∧Aside0 (kq ≤ kj3)∧Aside0 (wc.heap[gb536]? = some (.cells #[(.slice A0_0 l0_0.length c0_0),(.slice A0_1 l0_1.length c0_1)] 25 (0,0)))∧Aside0 (Below w.heap.size w wc))
   case first =>
    have H:=HC9.out;clear HC9;by_cases c10:x15_3 = true
    ·subst c10;rw [if_pos rfl] at H
     have H':=zA H;clear H;go_wp2;go_meet
     case rel=>exact ⟨_,(1),qr,H',⟨qo HJ3⟩,⟨qk BK536⟩,⟨qb⟩⟩
    ·replace c10:=Bool.eq_false_iff.mpr c10;subst c10;rw [if_neg (show ¬ (false = true) by decide)] at H
     have H':=zA H;clear H;go_wp2;go_meet
     case rel=>exact ⟨_,(t537),qr,H',⟨qo HJ3⟩,⟨qk BK536⟩,⟨qb⟩⟩
   case rest =>
    clear HC9;obtain ⟨kq,x5_8,rfl,HA,HJ8,BK536,HB⟩:=hcut;cases kq with
    | zero=>exact absurd HA.out (by simp [zAC.j1])
    | succ kj8 =>
     have H:=HA.out;clear HA;simp only [zAC.j1] at H;have H':=zA H;clear H;go_wp2;go_loopg [5,6] kj8 (fun kq v5 v6 w'=>∃ (x5_3:Int) (x6_3:Int),v5 = .int .i64 x5_3∧v6 = .int .i64 x6_3∧Aside0 (zAC.l0 kq l1 x5_3 x6_3 l0_0 l0_1 = some r)∧Aside0 (kq ≤ kj8)∧Aside0 (w'.heap[gb536]? = some (.cells #[(.slice A0_0 l0_0.length c0_0),(.slice A0_1 l0_1.length c0_1)] 25 (0,0)))∧Aside0 (Below w.heap.size w w'))
     case atStart=>exact ⟨(x5_8),(0),qr,qr,H',⟨Nat.le_refl _⟩,⟨qk BK536⟩,⟨qb⟩⟩
     case round =>
      clear H';obtain ⟨x5_3,x6_3,rfl,rfl,HA,HK3,BK536,HB⟩:=hrel;cases gk with
      | zero=>exact absurd HA.out (by simp [zAC.l0])
      | succ k3 =>
       have H:=HA.out;clear HA;simp only [zAC.l0] at H;rcases qj H with ⟨c11b0,H⟩|⟨c11b0,H⟩
       ·rcases qE H with ⟨c12b0,c12b1,H⟩|⟨c12,c12b0,c12b1,H⟩
        ·rcases qj H with ⟨c13b0,H⟩|⟨c13,H⟩
         ·replace H:=zb.mp H;obtain ⟨t539,A140,H⟩:=H;(try dsimp only at H);have A14:=zA A140;clear A140;have H':=zA H;clear H;(try go_wp2);replace BK536:=zA (zM BK536.out);replace HB:=zA (zE HB.out);have p538:0 ≤ (x6_3:Int):=qd;have q538:x6_3 < (l1.length:Int):=qd;obtain ⟨ad538,A538_0,c538_0,e538,hx538_0,hl538_0,hi538_0⟩:=zBW HR1.out x6_3 p538 q538;have hw538_0:=hx538_0;cases e538;replace hx538_0:=qy HB hx538_0;have HR538_0:=zA hi538_0;have HC538_0:=zA hl538_0;clear hi538_0 hl538_0;replace p538:=qT p538;replace q538:=qT q538;refine start_ (n:=9) (S:=fun w'=>w'.cell? ⟨gb536,0,none⟩ = some (.slice A0_0 l0_0.length c0_0)∧w'.cell? ⟨gb536,1,none⟩ = some (.slice A0_1 l0_1.length c0_1)∧w'.cell? (ad538.add (x6_3).toNat) = some (.slice A538_0 (zBB l1 x6_3).length c538_0)) (ds:=[]) #[false,false,false,false,false,false,false,false,false] (by kernel_rfl) rfl rfl ⟨(zI BK536.out 0).trans rfl,(zI BK536.out 1).trans rfl,(qy HB hw538_0 :)⟩ (fun hHeld=>?_);refine with_tabW zAC.tab7 zAC.bits7 (fun HT_ HW_=>?_);generalize wr.drew = w15 at BK536 HB HR538_0 hx538_0 hHeld ⊢;refine pq 0 (some 26) HT_ ?_;refine pq 1 (some 27) HT_ ?_;refine pq 2 (some 28) HT_ ?_;refine pq 4 (some 30) HT_ ?_;refine tq 3 (some 29) HT_ HW_ hHeld ?_;refine tq 5 (some 31) HT_ HW_ hHeld ?_;refine pq 6 (some 32) HT_ ?_;refine oq 7 (some 33) HT_ (fun K hK=>?_);refine gq Tryz.func92 #[.slice A538_0 (zBB l1 x6_3).length c538_0,.int .i64 (l0_0.length:Int),.bool true] ?_;(with_reducible refine (zAq.calls k3 _ _ (zBB l1 x6_3) (l0_0.length:Int) true t539 _ (qc HR538_0) HC538_0.out A14.out).mono ?_);rintro e w16 ⟨rfl,hb⟩;refine ⟨_,rfl,?_⟩;replace BK536:=qK BK536 hb;replace HB:=zA (zH qb hb);(try clear hb);(try clear hb2);(try clear hk);(try clear hi);refine hK.out _ _ ⟨(zI BK536.out 0).trans rfl,(zI BK536.out 1).trans rfl,(qy HB hw538_0 :)⟩ (fun hHeld=>?_);clear hK K;refine norm_ (a':=?_) ?_ ?_;rotate_left
          ·show Act.put _ (some 33) _ = _;simp only [Act.put,zX,zY,zZ,i64_w,i32_w];rfl
          refine pq 8 (some 5) HT_ ?_;refine done_ (done_of HT_.out (by kernel_rfl)) ?_;(try go_wp2);go_roundg k3
          case measure=>have:=HJ3.out;have:=HJ8.out;have:=HK3.out;omega
          case rel=>exact ⟨(t539),(wrap64 (x6_3 + 1)),qr,qr,H',⟨qq HJ3 HJ8 HK3⟩,⟨qk BK536⟩,⟨qb⟩⟩
         ·nomatch H
        ·obtain rfl:=Option.some.inj H;go_wp2;go_ret;exact ⟨qe,qb⟩
       ·obtain rfl:=Option.some.inj H;go_wp2;go_ret;exact ⟨qe,qb⟩
def zAs.f (k:Nat) (l0_0:List (S113)) (l0_1:List (S102)) (l0_2:List (List (S96))) (l0_3:List (S96)):Option (Int):=(zAC.f k l0_0 l0_1 l0_2).bind fun t553=>(if t553 = 0 then ((zAH.f k l0_3 (l0_2.length:Int)).bind fun t554=>(some t554)) else (some t553))
theorem zAs.mono:∀ a0 a1 a2 a3 k,LeO (zAs.f k a0 a1 a2 a3) (zAs.f (k + 1) a0 a1 a2 a3):=by
 intro a0 a1 a2 a3 k;unfold zAs.f;exact qM (And.intro @zAH.mono @zAC.mono)
set_option maxHeartbeats 8000000 in
set_option maxRecDepth 100000 in
theorem zAs.calls (k:Nat) (A0_0:Option Addr) (c0_0:Nat) (l0_0:List (S113)) (A0_1:Option Addr) (c0_1:Nat) (l0_1:List (S102)) (A0_2:Option Addr) (c0_2:Nat) (l0_2:List (List (S96))) (A0_3:Option Addr) (c0_3:Nat) (l0_3:List (S96)) (r:Int) (w:World) (hr0_0:Kd.C k113 w A0_0 l0_0.length l0_0) (hc0_0:l0_0.length ≤ c0_0) (hr0_1:Kd.C k102 w A0_1 l0_1.length l0_1) (hc0_1:l0_1.length ≤ c0_1) (hr0_2:Kd.C (Kd.slice 96 k96) w A0_2 l0_2.length l0_2) (hc0_2:l0_2.length ≤ c0_2) (hr0_3:Kd.C k96 w A0_3 l0_3.length l0_3) (hc0_3:l0_3.length ≤ c0_3) (h:zAs.f k l0_0 l0_1 l0_2 l0_3 = some r) :
  Calls Tryz.prog 26 #[.agg #[.slice A0_0 l0_0.length c0_0,.slice A0_1 l0_1.length c0_1,.slice A0_2 l0_2.length c0_2,.slice A0_3 l0_3.length c0_3]] w fun e w'=>e = .returned (.int .i64 r)∧Below w.heap.size w w':=by
 have hu29:=Tryz.underlying29;have hu25:=Tryz.underlying25;have HR0_0:=zA hr0_0;have HC0_0:=zA hc0_0;clear hr0_0 hc0_0;have HR0_1:=zA hr0_1;have HC0_1:=zA hc0_1;clear hr0_1 hc0_1;have HR0_2:=zA hr0_2;have HC0_2:=zA hc0_2;clear hr0_2 hc0_2;have HR0_3:=zA hr0_3;have HC0_3:=zA hc0_3;clear hr0_3 hc0_3;have HB:=zA (Below.refl w.heap.size w);have H:((zAC.f k l0_0 l0_1 l0_2).bind fun t553=>(if t553 = 0 then ((zAH.f k l0_3 (l0_2.length:Int)).bind fun t554=>(some t554)) else (some t553))) = some r:=h;clear h;replace H:=zb.mp H;obtain ⟨t553,A20,H⟩:=H;(try dsimp only at H);have A2:=zA A20;clear A20;rcases qE H with ⟨c3b0,c3b1,H⟩|⟨c3,c3b0,c3b1,H⟩
 ·replace H:=zb.mp H;obtain ⟨t554,A40,H⟩:=H;(try dsimp only at H);have A4:=zA A40;clear A40;obtain rfl:=Option.some.inj H;go_enter Tryz.func26,Tryz.ntmps26;go_wp2_with (first|((with_reducible refine zV (N:=1) rfl ?_);refine bQ 1 (cs:=#[.slice A0_0 l0_0.length c0_0,.slice A0_1 l0_1.length c0_1,.slice A0_2 l0_2.length c0_2,.slice A0_3 l0_3.length c0_3]) (t:=29) ?_;intro gb552 hg w5 BK552 hb;have GW552:=zA (qg hg);replace HB:=zA (zH qb hb);clear hb hg;obtain ⟨hcz6_0,hcz6_1,hcz6_2,hcz6_3⟩:=q4 BK552;have hfz6_0:=zJ BK552.out)|((with_reducible refine zU (f:=61) rfl ?_);refine gL (some 8) Tryz.func61 #[.agg #[.slice A0_0 l0_0.length c0_0,.slice A0_1 l0_1.length c0_1],.slice A0_2 l0_2.length c0_2] ?_;(with_reducible refine (zAC.calls k _ _ l0_0 _ _ l0_1 _ _ l0_2 t553 _ (qc HR0_0) HC0_0.out (qc HR0_1) HC0_1.out (qc HR0_2) HC0_2.out A2.out).mono ?_);rintro e w7 ⟨rfl,hb⟩;refine ⟨_,rfl,?_⟩;replace BK552:=qK BK552 hb;replace HB:=zA (zH qb hb);clear hb;obtain ⟨hcz8_0,hcz8_1,hcz8_2,hcz8_3⟩:=q4 BK552;have hfz8_0:=zJ BK552.out)|((with_reducible refine zU (f:=62) rfl ?_);refine gL (some 16) Tryz.func62 #[.slice A0_3 l0_3.length c0_3,.int .i64 (l0_2.length:Int)] ?_;(with_reducible refine (zAH.calls k _ _ l0_3 (l0_2.length:Int) t554 _ (qc HR0_3) HC0_3.out A4.out).mono ?_);rintro e w9 ⟨rfl,hb⟩;refine ⟨_,rfl,?_⟩;replace BK552:=qK BK552 hb;replace HB:=zA (zH qb hb);clear hb));go_ret;exact ⟨qe,qb⟩
 ·obtain rfl:=Option.some.inj H;go_enter Tryz.func26,Tryz.ntmps26;go_wp2_with (first|((with_reducible refine zV (N:=1) rfl ?_);refine bQ 1 (cs:=#[.slice A0_0 l0_0.length c0_0,.slice A0_1 l0_1.length c0_1,.slice A0_2 l0_2.length c0_2,.slice A0_3 l0_3.length c0_3]) (t:=29) ?_;intro gb552 hg w10 BK552 hb;have GW552:=zA (qg hg);replace HB:=zA (zH qb hb);clear hb hg;obtain ⟨hcz11_0,hcz11_1,hcz11_2,hcz11_3⟩:=q4 BK552;have hfz11_0:=zJ BK552.out)|((with_reducible refine zU (f:=61) rfl ?_);refine gL (some 8) Tryz.func61 #[.agg #[.slice A0_0 l0_0.length c0_0,.slice A0_1 l0_1.length c0_1],.slice A0_2 l0_2.length c0_2] ?_;(with_reducible refine (zAC.calls k _ _ l0_0 _ _ l0_1 _ _ l0_2 t553 _ (qc HR0_0) HC0_0.out (qc HR0_1) HC0_1.out (qc HR0_2) HC0_2.out A2.out).mono ?_);rintro e w12 ⟨rfl,hb⟩;refine ⟨_,rfl,?_⟩;replace BK552:=qK BK552 hb;replace HB:=zA (zH qb hb);clear hb));go_ret;exact ⟨qe,qb⟩
def zAZ.l0:Nat → Int → Int → List (S113) → List (S102) → Option (Int)
 | 0,_,_,_,_=>none
 | k + 1,x5,x6,x556000,x556001=>if x6 < (x556000.length:Int) then (if 0 ≤ x6 then (zAZ.l0 k (wrap64 (x5 * (wrap64 ((wrap64 (((zAO x556000 x6).f2) - ((zAO x556000 x6).f1))) + 1)))) (wrap64 (x6 + 1)) x556000 x556001) else (none)) else (some x5)
def zAZ.f (k:Nat) (l0_0:List (S113)) (l0_1:List (S102)) (a1:Int):Option (Int):=zAZ.l0 k 1 (wrap64 (a1 + 1)) l0_0 l0_1
theorem zAZ.mono_l:∀ k,(∀ y0 y1 y2 y3,LeO (zAZ.l0 k y0 y1 y2 y3) (zAZ.l0 (k + 1) y0 y1 y2 y3))
 | 0=>fun _ _ _ _ r h=>by simp [zAZ.l0] at h
 | k + 1=>by
  have ih0:=zAZ.mono_l k
  ·intro y0 y1 y2 y3
   unfold zAZ.l0
   exact qL
theorem zAZ.mono:∀ a0 a1 a2 k,LeO (zAZ.f k a0 a1 a2) (zAZ.f (k + 1) a0 a1 a2):=by
 intro a0 a1 a2 k;have ih0:=zAZ.mono_l k;unfold zAZ.f;exact qL
set_option maxHeartbeats 8000000 in
set_option maxRecDepth 100000 in
theorem zAZ.calls (k:Nat) (A0_0:Option Addr) (c0_0:Nat) (l0_0:List (S113)) (A0_1:Option Addr) (c0_1:Nat) (l0_1:List (S102)) (a1:Int) (r:Int) (w:World) (hr0_0:Kd.C k113 w A0_0 l0_0.length l0_0) (hc0_0:l0_0.length ≤ c0_0) (hr0_1:Kd.C k102 w A0_1 l0_1.length l0_1) (hc0_1:l0_1.length ≤ c0_1) (h:zAZ.f k l0_0 l0_1 a1 = some r) :
  Calls Tryz.prog 64 #[.agg #[.slice A0_0 l0_0.length c0_0,.slice A0_1 l0_1.length c0_1],.int .i64 a1] w fun e w'=>e = .returned (.int .i64 r)∧Below w.heap.size w w':=by
 have hu25:=Tryz.underlying25;have HR0_0:=zA hr0_0;have HC0_0:=zA hc0_0;clear hr0_0 hc0_0;have HR0_1:=zA hr0_1;have HC0_1:=zA hc0_1;clear hr0_1 hc0_1;have HB:=zA (Below.refl w.heap.size w);have H:(zAZ.l0 k 1 (wrap64 (a1 + 1)) l0_0 l0_1) = some r:=h;clear h;have H':=zA H;clear H;go_enter Tryz.func64,Tryz.ntmps64;go_wp2_with (first|((with_reducible refine zV (N:=2) rfl ?_);refine bQ 2 (cs:=#[.slice A0_0 l0_0.length c0_0,.slice A0_1 l0_1.length c0_1]) (t:=25) ?_;intro gb555 hg w3 BK555 hb;have GW555:=zA (qg hg);replace HB:=zA (zH qb hb);clear hb hg));go_loopg [5,6] k (fun kq v5 v6 w'=>∃ (x5_1:Int) (x6_1:Int),v5 = .int .i64 x5_1∧v6 = .int .i64 x6_1∧Aside0 (zAZ.l0 kq x5_1 x6_1 l0_0 l0_1 = some r)∧Aside0 (kq ≤ k)∧Aside0 (w'.heap[gb555]? = some (.cells #[(.slice A0_0 l0_0.length c0_0),(.slice A0_1 l0_1.length c0_1)] 25 (0,0)))∧Aside0 (Below w.heap.size w w'))
 case atStart=>exact ⟨(1),(wrap64 (a1 + 1)),qr,qr,H',⟨Nat.le_refl _⟩,⟨qk BK555⟩,⟨qb⟩⟩
 case round =>
  clear H';obtain ⟨x5_1,x6_1,rfl,rfl,HA,HK1,BK555,HB⟩:=hrel;cases gk with
  | zero=>exact absurd HA.out (by simp [zAZ.l0])
  | succ k1 =>
   have H:=HA.out;clear HA;simp only [zAZ.l0] at H;rcases qj H with ⟨c4b0,H⟩|⟨c4b0,H⟩
   ·rcases qj H with ⟨c5b0,H⟩|⟨c5,H⟩
    ·have H':=zA H;clear H;obtain ⟨hcz6_0,hcz6_1⟩:=q2 BK555;have hfz6_0:=zJ BK555.out;have p556:0 ≤ (x6_1:Int):=qd;have q556:x6_1 < (l0_0.length:Int):=qd;obtain ⟨ad556,e556,hx556_0,hx556_1,hx556_2,hx556_3⟩:=zBO (qW HR0_0 HB) x6_1 p556 q556;cases e556;replace p556:=qT p556;replace q556:=qT q556;have p557:0 ≤ (x6_1:Int):=qd;have q557:x6_1 < (l0_0.length:Int):=qd;obtain ⟨ad557,e557,hx557_0,hx557_1,hx557_2,hx557_3⟩:=zBO (qW HR0_0 HB) x6_1 p557 q557;obtain rfl:ad556 = ad557:=(by injection e557);replace p557:=qT p557;replace q557:=qT q557;go_wp2;(repeat (go_quiet (fail);try go_wp2));go_roundg k1
     case measure=>have:=HK1.out;omega
     case rel=>exact ⟨(wrap64 (x5_1 * (wrap64 ((wrap64 (((zAO l0_0 x6_1).f2) - ((zAO l0_0 x6_1).f1))) + 1)))),(wrap64 (x6_1 + 1)),qr,qr,H',⟨qo HK1⟩,⟨qk BK555⟩,⟨qb⟩⟩
    ·nomatch H
   ·obtain rfl:=Option.some.inj H;obtain ⟨hcz7_0,hcz7_1⟩:=q2 BK555;have hfz7_0:=zJ BK555.out;go_wp2;go_ret;exact ⟨qe,qb⟩
def zAb.f (k:Nat) (l0_0:List (S113)) (l0_1:List (S102)):Option (Int × Int):=(zAL.f k l0_0 l0_1).bind fun t559=>(if t559 = 0 then ((zAZ.f k l0_0 l0_1 (-1)).bind fun t560=>(some (t560,0))) else (some (0,t559)))
theorem zAb.mono:∀ a0 a1 k,LeO (zAb.f k a0 a1) (zAb.f (k + 1) a0 a1):=by
 intro a0 a1 k;unfold zAb.f;exact qM (And.intro @zAL.mono @zAZ.mono)
set_option maxHeartbeats 8000000 in
set_option maxRecDepth 100000 in
theorem zAb.calls (k:Nat) (A0_0:Option Addr) (c0_0:Nat) (l0_0:List (S113)) (A0_1:Option Addr) (c0_1:Nat) (l0_1:List (S102)) (r1:Int) (r2:Int) (w:World) (hr0_0:Kd.C k113 w A0_0 l0_0.length l0_0) (hc0_0:l0_0.length ≤ c0_0) (hr0_1:Kd.C k102 w A0_1 l0_1.length l0_1) (hc0_1:l0_1.length ≤ c0_1) (h:zAb.f k l0_0 l0_1 = some (r1,r2)) :
  Calls Tryz.prog 27 #[.agg #[.slice A0_0 l0_0.length c0_0,.slice A0_1 l0_1.length c0_1]] w fun e w'=>e = .returned (.tuple #[.int .i64 r1,.int .i64 r2])∧Below w.heap.size w w':=by
 have hu25:=Tryz.underlying25;have HR0_0:=zA hr0_0;have HC0_0:=zA hc0_0;clear hr0_0 hc0_0;have HR0_1:=zA hr0_1;have HC0_1:=zA hc0_1;clear hr0_1 hc0_1;have HB:=zA (Below.refl w.heap.size w);have H:((zAL.f k l0_0 l0_1).bind fun t559=>(if t559 = 0 then ((zAZ.f k l0_0 l0_1 (-1)).bind fun t560=>(some (t560,0))) else (some (0,t559)))) = some (r1,r2):=h;clear h;replace H:=zb.mp H;obtain ⟨t559,A20,H⟩:=H;(try dsimp only at H);have A2:=zA A20;clear A20;rcases qE H with ⟨c3b0,c3b1,H⟩|⟨c3,c3b0,c3b1,H⟩
 ·replace H:=zb.mp H;obtain ⟨t560,A40,H⟩:=H;(try dsimp only at H);have A4:=zA A40;clear A40;obtain ⟨rfl,rfl⟩:=qP H;go_enter Tryz.func27,Tryz.ntmps27;go_wp2_with (first|((with_reducible refine zV (N:=1) rfl ?_);refine bQ 1 (cs:=#[.slice A0_0 l0_0.length c0_0,.slice A0_1 l0_1.length c0_1]) (t:=25) ?_;intro gb558 hg w5 BK558 hb;have GW558:=zA (qg hg);replace HB:=zA (zH qb hb);clear hb hg;obtain ⟨hcz6_0,hcz6_1⟩:=q2 BK558;have hfz6_0:=zJ BK558.out)|((with_reducible refine zU (f:=63) rfl ?_);refine gL (some 6) Tryz.func63 #[.agg #[.slice A0_0 l0_0.length c0_0,.slice A0_1 l0_1.length c0_1]] ?_;(with_reducible refine (zAL.calls k _ _ l0_0 _ _ l0_1 t559 _ (qc HR0_0) HC0_0.out (qc HR0_1) HC0_1.out A2.out).mono ?_);rintro e w7 ⟨rfl,hb⟩;refine ⟨_,rfl,?_⟩;replace BK558:=qK BK558 hb;replace HB:=zA (zH qb hb);clear hb;obtain ⟨hcz8_0,hcz8_1⟩:=q2 BK558;have hfz8_0:=zJ BK558.out)|((with_reducible refine zU (f:=64) rfl ?_);refine gL (some 11) Tryz.func64 #[.agg #[.slice A0_0 l0_0.length c0_0,.slice A0_1 l0_1.length c0_1],.int .i64 (-1)] ?_;(with_reducible refine (zAZ.calls k _ _ l0_0 _ _ l0_1 (-1) t560 _ (qc HR0_0) HC0_0.out (qc HR0_1) HC0_1.out A4.out).mono ?_);rintro e w9 ⟨rfl,hb⟩;refine ⟨_,rfl,?_⟩;replace BK558:=qK BK558 hb;replace HB:=zA (zH qb hb);clear hb));go_ret2;exact ⟨qe,qb⟩
 ·obtain ⟨rfl,rfl⟩:=qP H;go_enter Tryz.func27,Tryz.ntmps27;go_wp2_with (first|((with_reducible refine zV (N:=1) rfl ?_);refine bQ 1 (cs:=#[.slice A0_0 l0_0.length c0_0,.slice A0_1 l0_1.length c0_1]) (t:=25) ?_;intro gb558 hg w10 BK558 hb;have GW558:=zA (qg hg);replace HB:=zA (zH qb hb);clear hb hg;obtain ⟨hcz11_0,hcz11_1⟩:=q2 BK558;have hfz11_0:=zJ BK558.out)|((with_reducible refine zU (f:=63) rfl ?_);refine gL (some 6) Tryz.func63 #[.agg #[.slice A0_0 l0_0.length c0_0,.slice A0_1 l0_1.length c0_1]] ?_;(with_reducible refine (zAL.calls k _ _ l0_0 _ _ l0_1 t559 _ (qc HR0_0) HC0_0.out (qc HR0_1) HC0_1.out A2.out).mono ?_);rintro e w12 ⟨rfl,hb⟩;refine ⟨_,rfl,?_⟩;replace BK558:=qK BK558 hb;replace HB:=zA (zH qb hb);clear hb));go_ret2;exact ⟨qe,qb⟩
end Go.Proofs.YtgdijfhdpgdanaaGreatDoor.B
