import Derived.Test.YtgdijfhdpgdanaaGreatDoorKProductBehindsG17
namespace Go.Proofs.YtgdijfhdpgdanaaGreatDoor.B
open Go.Proofs.YtgdijfhdpgdanaaGreatDoor.Al
open Option renaming bind_eq_some_iff → zb
open Go.Proofs.YtgdijfhdpgdanaaGreatDoorW.PrintWords renaming gate_callee → zU, below_step → zH, Kd.C_below → zT
open Go.Proofs.YtgdijfhdpgdanaaGreatDoorW.PrintWords Go.Proofs.YtgdijfhdpgdanaaGreatDoor.Sq Go.RowKit Go.Proofs.YtgdijfhdpgdanaaGreatDoorW.PrintLast Go.Proofs.YtgdijfhdpgdanaaGreatDoorW.PrintMore
attribute [local go_sem] max2_int min2_int max_two min_two max_three min_three max_four min_four
set_option linter.unusedVariables false
set_option linter.unusedSimpArgs false
mutual
def zAP.j0:Nat → Int → Bool → Option (Int × Int)
 | 0,_,_=>none
 | k + 1,x4,x5=>if x5 = true then (some (0,0)) else (if x4 = 10 then (zAP.j1 k x4 (x4 == 10)) else (if x4 = 14 then (zAP.j1 k x4 (x4 == 14)) else (if x4 = 17 then (zAP.j1 k x4 (x4 == 17)) else (zAP.j1 k x4 (x4 == 18)))))
def zAP.j1:Nat → Int → Bool → Option (Int × Int)
 | 0,_,_=>none
 | k + 1,x4,x11=>if x11 = true then (some (1,0)) else (if x4 = 3 then (some (2,0)) else (if x4 = 4 then (some (2,0)) else (if x4 = 5 then (some (2,0)) else (if x4 = 6 then (some (2,0)) else (if x4 = 7 then (some (2,0)) else (if x4 = 8 then (some (2,0)) else (if x4 = 9 then (some (2,0)) else (if x4 = 15 then (some (2,0)) else (if x4 = 16 then (some (2,0)) else (some (0,13)))))))))))
end
def zAP.f (k:Nat) (a0:Int):Option (Int × Int):=if a0 = 1 then (zAP.j0 k a0 (a0 == 1)) else (if a0 = 2 then (zAP.j0 k a0 (a0 == 2)) else (if a0 = 11 then (zAP.j0 k a0 (a0 == 11)) else (if a0 = 12 then (zAP.j0 k a0 (a0 == 12)) else (zAP.j0 k a0 (a0 == 13)))))
theorem zAP.mono_l:∀ k,(∀ y0 y1,LeO (zAP.j0 k y0 y1) (zAP.j0 (k + 1) y0 y1))∧(∀ y0 y1,LeO (zAP.j1 k y0 y1) (zAP.j1 (k + 1) y0 y1))
 | 0=>⟨fun _ _ r h=>by simp [zAP.j0] at h,fun _ _ r h=>by simp [zAP.j1] at h⟩
 | k + 1=>by
  obtain ⟨ih0,ih1⟩:=zAP.mono_l k
  refine ⟨?_,?_⟩
  ·intro y0 y1
   unfold zAP.j0
   exact qL
  ·intro y0 y1
   unfold zAP.j1
   exact qL
theorem zAP.mono:∀ a0 k,LeO (zAP.f k a0) (zAP.f (k + 1) a0):=by
 intro a0 k;obtain ⟨ih0,ih1⟩:=zAP.mono_l k;unfold zAP.f;exact qL
set_option maxHeartbeats 8000000 in
set_option maxRecDepth 100000 in
theorem zAP.calls (k:Nat) (a0:Int) (r1:Int) (r2:Int) (w:World) (h:zAP.f k a0 = some (r1,r2)) :
  Calls Tryz.prog 126 #[.int .i64 a0] w fun e w'=>e = .returned (.tuple #[.int .i64 r1,.int .i64 r2])∧Drawn0 w w':=by
 have H:(if a0 = 1 then (zAP.j0 k a0 (a0 == 1)) else (if a0 = 2 then (zAP.j0 k a0 (a0 == 2)) else (if a0 = 11 then (zAP.j0 k a0 (a0 == 11)) else (if a0 = 12 then (zAP.j0 k a0 (a0 == 12)) else (zAP.j0 k a0 (a0 == 13)))))) = some (r1,r2):=h;clear h;have HC2:=zA H;clear H;go_enter Tryz.func126,Tryz.ntmps126;go_upto_if 5 with (fail);go_cut [5] (fun v5 wc=>∃ (kq:Nat) (x5_1:Bool),v5 = .bool x5_1∧Aside0 (zAP.j0 kq a0 x5_1 = some (r1,r2))∧Aside0 (kq ≤ k)∧Drawn0 w wc)
 case first =>
  have H:=HC2.out;clear HC2;rcases qE H with ⟨c3b0,c3b1,H⟩|⟨c3,c3b0,c3b1,H⟩
  ·(first|rw [c3b0]|(simp only [i64_w,i32_w];rw [c3b0])|skip);have H':=zA H;clear H;go_wp2;go_meet
   case rel=>exact ⟨_,((a0 == 1)),qr,H',⟨qm⟩,qt⟩
  ·(first|rw [c3b0]|(simp only [i64_w,i32_w];rw [c3b0])|skip);rcases qE H with ⟨c4b0,c4b1,H⟩|⟨c4,c4b0,c4b1,H⟩
   ·have H':=zA H;clear H;go_wp2;go_meet
    case rel=>exact ⟨_,((a0 == 2)),qr,H',⟨qm⟩,qt⟩
   ·rcases qE H with ⟨c5b0,c5b1,H⟩|⟨c5,c5b0,c5b1,H⟩
    ·have H':=zA H;clear H;go_wp2;go_meet
     case rel=>exact ⟨_,((a0 == 11)),qr,H',⟨qm⟩,qt⟩
    ·rcases qE H with ⟨c6b0,c6b1,H⟩|⟨c6,c6b0,c6b1,H⟩
     ·have H':=zA H;clear H;go_wp2;go_meet
      case rel=>exact ⟨_,((a0 == 12)),qr,H',⟨qm⟩,qt⟩
     ·have H':=zA H;clear H;go_wp2;go_meet
      case rel=>exact ⟨_,((a0 == 13)),qr,H',⟨qm⟩,qt⟩
 case rest =>
  clear HC2;obtain ⟨kq,x5_1,rfl,HA,HJ1,⟨mc1,rfl⟩⟩:=hcut;cases kq with
  | zero=>exact absurd HA.out (by simp [zAP.j0])
  | succ kj1 =>
   have H:=HA.out;clear HA;simp only [zAP.j0] at H;by_cases c7:x5_1 = true
   ·subst c7;rw [if_pos rfl] at H
    obtain ⟨rfl,rfl⟩:=qP H;go_wp2;go_ret2;exact ⟨qr,qt⟩
   ·replace c7:=Bool.eq_false_iff.mpr c7;subst c7;rw [if_neg (show ¬ (false = true) by decide)] at H
    have HC8:=zA H;clear H;go_upto_if 11 with (fail);go_cut [11] (fun v11 wc=>∃ (kq:Nat) (x11_7:Bool),v11 = .bool x11_7∧Aside0 (zAP.j1 kq a0 x11_7 = some (r1,r2))∧Aside0 (kq ≤ kj1)∧Drawn0 w wc)
    case first =>
     have H:=HC8.out;clear HC8;rcases qE H with ⟨c9b0,c9b1,H⟩|⟨c9,c9b0,c9b1,H⟩
     ·(first|rw [c9b0]|(simp only [i64_w,i32_w];rw [c9b0])|skip);have H':=zA H;clear H;go_wp2;go_meet
      case rel=>exact ⟨_,((a0 == 10)),qr,H',⟨qo HJ1⟩,qt⟩
     ·(first|rw [c9b0]|(simp only [i64_w,i32_w];rw [c9b0])|skip);rcases qE H with ⟨c10b0,c10b1,H⟩|⟨c10,c10b0,c10b1,H⟩
      ·have H':=zA H;clear H;go_wp2;go_meet
       case rel=>exact ⟨_,((a0 == 14)),qr,H',⟨qo HJ1⟩,qt⟩
      ·rcases qE H with ⟨c11b0,c11b1,H⟩|⟨c11,c11b0,c11b1,H⟩
       ·have H':=zA H;clear H;go_wp2;go_meet
        case rel=>exact ⟨_,((a0 == 17)),qr,H',⟨qo HJ1⟩,qt⟩
       ·have H':=zA H;clear H;go_wp2;go_meet
        case rel=>exact ⟨_,((a0 == 18)),qr,H',⟨qo HJ1⟩,qt⟩
    case rest =>
     clear HC8;obtain ⟨kq,x11_7,rfl,HA,HJ7,⟨mc7,rfl⟩⟩:=hcut;cases kq with
     | zero=>exact absurd HA.out (by simp [zAP.j1])
     | succ kj7 =>
      have H:=HA.out;clear HA;simp only [zAP.j1] at H;by_cases c12:x11_7 = true
      ·subst c12;rw [if_pos rfl] at H
       obtain ⟨rfl,rfl⟩:=qP H;go_wp2;go_ret2;exact ⟨qr,qt⟩
      ·replace c12:=Bool.eq_false_iff.mpr c12;subst c12;rw [if_neg (show ¬ (false = true) by decide)] at H
       rcases qE H with ⟨c13b0,c13b1,H⟩|⟨c13,c13b0,c13b1,H⟩
       ·obtain ⟨rfl,rfl⟩:=qP H;go_wp2;go_ret2;exact ⟨qr,qt⟩
       ·rcases qE H with ⟨c14b0,c14b1,H⟩|⟨c14,c14b0,c14b1,H⟩
        ·obtain ⟨rfl,rfl⟩:=qP H;go_wp2;go_ret2;exact ⟨qr,qt⟩
        ·rcases qE H with ⟨c15b0,c15b1,H⟩|⟨c15,c15b0,c15b1,H⟩
         ·obtain ⟨rfl,rfl⟩:=qP H;go_wp2;go_ret2;exact ⟨qr,qt⟩
         ·rcases qE H with ⟨c16b0,c16b1,H⟩|⟨c16,c16b0,c16b1,H⟩
          ·obtain ⟨rfl,rfl⟩:=qP H;go_wp2;go_ret2;exact ⟨qr,qt⟩
          ·rcases qE H with ⟨c17b0,c17b1,H⟩|⟨c17,c17b0,c17b1,H⟩
           ·obtain ⟨rfl,rfl⟩:=qP H;go_wp2;go_ret2;exact ⟨qr,qt⟩
           ·rcases qE H with ⟨c18b0,c18b1,H⟩|⟨c18,c18b0,c18b1,H⟩
            ·obtain ⟨rfl,rfl⟩:=qP H;go_wp2;go_ret2;exact ⟨qr,qt⟩
            ·rcases qE H with ⟨c19b0,c19b1,H⟩|⟨c19,c19b0,c19b1,H⟩
             ·obtain ⟨rfl,rfl⟩:=qP H;go_wp2;go_ret2;exact ⟨qr,qt⟩
             ·rcases qE H with ⟨c20b0,c20b1,H⟩|⟨c20,c20b0,c20b1,H⟩
              ·obtain ⟨rfl,rfl⟩:=qP H;go_wp2;go_ret2;exact ⟨qr,qt⟩
              ·rcases qE H with ⟨c21b0,c21b1,H⟩|⟨c21,c21b0,c21b1,H⟩
               ·obtain ⟨rfl,rfl⟩:=qP H;go_wp2;go_ret2;exact ⟨qr,qt⟩
               ·obtain ⟨rfl,rfl⟩:=qP H;go_wp2;go_ret2;exact ⟨qr,qt⟩
def zAa.l0:Nat → List (S96) → Int → Int → Option (Int × Int)
 | 0,_,_,_=>none
 | k + 1,x0,x6,x7=>if x7 < (x0.length:Int) then (if 0 ≤ x7 then ((zAP.f k ((zAI x0 x7).f0)).bind fun bt469=>(if bt469.2 = 0 then (if (wrap64 ((wrap64 (x6 + bt469.1)) - 1)) = 0 then (some (wrap64 (x7 + 1),0)) else (zAa.l0 k x0 (wrap64 ((wrap64 (x6 + bt469.1)) - 1)) (wrap64 (x7 + 1)))) else (some (0,bt469.2)))) else (none)) else (some (0,4))
def zAa.f (k:Nat) (l0:List (S96)) (a1:Int):Option (Int × Int):=zAa.l0 k l0 1 a1
theorem zAa.mono_l:∀ k,(∀ y0 y1 y2,LeO (zAa.l0 k y0 y1 y2) (zAa.l0 (k + 1) y0 y1 y2))
 | 0=>fun _ _ _ r h=>by simp [zAa.l0] at h
 | k + 1=>by
  have ih0:=zAa.mono_l k
  ·intro y0 y1 y2
   unfold zAa.l0
   exact qM @zAP.mono
theorem zAa.mono:∀ a0 a1 k,LeO (zAa.f k a0 a1) (zAa.f (k + 1) a0 a1):=by
 intro a0 a1 k;have ih0:=zAa.mono_l k;unfold zAa.f;exact qM @zAP.mono
set_option maxHeartbeats 8000000 in
set_option maxRecDepth 100000 in
theorem zAa.calls (k:Nat) (A0:Option Addr) (c0:Nat) (l0:List (S96)) (a1:Int) (r1:Int) (r2:Int) (w:World) (hr0:Kd.C k96 w A0 l0.length l0) (hc0:l0.length ≤ c0) (h:zAa.f k l0 a1 = some (r1,r2)) :
  Calls Tryz.prog 100 #[.slice A0 l0.length c0,.int .i64 a1] w fun e w'=>e = .returned (.tuple #[.int .i64 r1,.int .i64 r2])∧Drawn0 w w':=by
 have HR0:=zA hr0;have HC0:=zA hc0;clear hr0 hc0;have H:(zAa.l0 k l0 1 a1) = some (r1,r2):=h;clear h;have H':=zA H;clear H;go_enter Tryz.func100,Tryz.ntmps100;go_wp2;go_loopg [6,7] k (fun kq v6 v7 w'=>∃ (x6_1:Int) (x7_1:Int),v6 = .int .i64 x6_1∧v7 = .int .i64 x7_1∧Aside0 (zAa.l0 kq l0 x6_1 x7_1 = some (r1,r2))∧Aside0 (kq ≤ k)∧Drawn0 w w')
 case atStart=>exact ⟨(1),(a1),qr,qr,H',⟨Nat.le_refl _⟩,qt⟩
 case round =>
  clear H';obtain ⟨x6_1,x7_1,rfl,rfl,HA,HK1,⟨m1,rfl⟩⟩:=hrel;cases gk with
  | zero=>exact absurd HA.out (by simp [zAa.l0])
  | succ k1 =>
   have H:=HA.out;clear HA;simp only [zAa.l0] at H;rcases qj H with ⟨c3b0,H⟩|⟨c3b0,H⟩
   ·rcases qj H with ⟨c4b0,H⟩|⟨c4,H⟩
    ·replace H:=zb.mp H;obtain ⟨⟨t469,t470⟩,A50,H⟩:=H;(try dsimp only at H);have A5:=zA A50;clear A50;rcases qE H with ⟨c6b0,c6b1,H⟩|⟨c6,c6b0,c6b1,H⟩
     ·rcases qE H with ⟨c7b0,c7b1,H⟩|⟨c7,c7b0,c7b1,H⟩
      ·obtain ⟨rfl,rfl⟩:=qP H;have p468:0 ≤ (x7_1:Int):=qd;have q468:x7_1 < (l0.length:Int):=qd;obtain ⟨ad468,e468,hx468_0,hx468_1⟩:=zA6 HR0.out x7_1 p468 q468;cases e468;replace p468:=qT p468;replace q468:=qT q468;go_wp2_with (first|((with_reducible refine zU (f:=126) rfl ?_);refine gL (some 23) Tryz.func126 #[.int .i64 ((zAI l0 x7_1).f0)] ?_;(with_reducible refine (zAP.calls k1 ((zAI l0 x7_1).f0) t469 t470 _ A5.out).mono ?_);rintro e w' ⟨rfl,⟨nd,rfl⟩⟩;refine ⟨_,rfl,?_⟩));go_ret2;exact ⟨qr,qt⟩
      ·have H':=zA H;clear H;have p468:0 ≤ (x7_1:Int):=qd;have q468:x7_1 < (l0.length:Int):=qd;obtain ⟨ad468,e468,hx468_0,hx468_1⟩:=zA6 HR0.out x7_1 p468 q468;cases e468;replace p468:=qT p468;replace q468:=qT q468;go_wp2_with (first|((with_reducible refine zU (f:=126) rfl ?_);refine gL (some 23) Tryz.func126 #[.int .i64 ((zAI l0 x7_1).f0)] ?_;(with_reducible refine (zAP.calls k1 ((zAI l0 x7_1).f0) t469 t470 _ A5.out).mono ?_);rintro e w' ⟨rfl,⟨nd,rfl⟩⟩;refine ⟨_,rfl,?_⟩));go_roundg k1
       case measure=>have:=HK1.out;omega
       case rel=>exact ⟨(wrap64 ((wrap64 (x6_1 + t469)) - 1)),(wrap64 (x7_1 + 1)),qr,qr,H',⟨qo HK1⟩,qt⟩
     ·obtain ⟨rfl,rfl⟩:=qP H;have p468:0 ≤ (x7_1:Int):=qd;have q468:x7_1 < (l0.length:Int):=qd;obtain ⟨ad468,e468,hx468_0,hx468_1⟩:=zA6 HR0.out x7_1 p468 q468;cases e468;replace p468:=qT p468;replace q468:=qT q468;go_wp2_with (first|((with_reducible refine zU (f:=126) rfl ?_);refine gL (some 23) Tryz.func126 #[.int .i64 ((zAI l0 x7_1).f0)] ?_;(with_reducible refine (zAP.calls k1 ((zAI l0 x7_1).f0) t469 t470 _ A5.out).mono ?_);rintro e w' ⟨rfl,⟨nd,rfl⟩⟩;refine ⟨_,rfl,?_⟩));go_ret2;exact ⟨qr,qt⟩
    ·nomatch H
   ·obtain ⟨rfl,rfl⟩:=qP H;go_wp2;go_ret2;exact ⟨qr,qt⟩
def zAX.l0:Nat → List (S96) → List Int → Int → Option (List Int × Int)
 | 0,_,_,_=>none
 | k + 1,x0,x6,x7=>if x7 < (x0.length:Int) then ((zAa.f k x0 x7).bind fun bt473=>(if x6.length < 17592186044416 then (zAX.l0 k x0 (x6 ++ [bt473.1]) (wrap64 (x7 + 1))) else (none))) else (some (x6,0))
def zAX.f (k:Nat) (l0:List (S96)):Option (List Int × Int):=if (l0.length:Int) > 60 then (some (([]:List Int),1)) else ((zAa.f k l0 0).bind fun bt471=>(if bt471.2 = 0 then (if bt471.1 < (l0.length:Int) then (some (([]:List Int),3)) else (zAX.l0 k l0 ([]:List Int) 0)) else (some (([]:List Int),bt471.2))))
theorem zAX.mono_l:∀ k,(∀ y0 y1 y2,LeO (zAX.l0 k y0 y1 y2) (zAX.l0 (k + 1) y0 y1 y2))
 | 0=>fun _ _ _ r h=>by simp [zAX.l0] at h
 | k + 1=>by
  have ih0:=zAX.mono_l k
  ·intro y0 y1 y2
   unfold zAX.l0
   exact qM @zAa.mono
theorem zAX.mono:∀ a0 k,LeO (zAX.f k a0) (zAX.f (k + 1) a0):=by
 intro a0 k;have ih0:=zAX.mono_l k;unfold zAX.f;exact qM @zAa.mono
set_option maxHeartbeats 8000000 in
set_option maxRecDepth 100000 in
theorem zAX.calls (k:Nat) (A0:Option Addr) (c0:Nat) (l0:List (S96)) (r1:List Int) (r2:Int) (w:World) (hr0:Kd.C k96 w A0 l0.length l0) (hc0:l0.length ≤ c0) (h:zAX.f k l0 = some (r1,r2)) :
  Calls Tryz.prog 93 #[.slice A0 l0.length c0] w fun e w'=>∃ v0_:Value,e = .returned (.tuple #[v0_,.int .i64 r2])∧Kd.R (Kd.int .i64) 3 w' w.heap.size (fun _=>True) v0_ r1∧Below w.heap.size w w':=by
 have HR0:=zA hr0;have HC0:=zA hc0;clear hr0 hc0;have HB:=zA (Below.refl w.heap.size w);have H:(if (l0.length:Int) > 60 then (some (([]:List Int),1)) else ((zAa.f k l0 0).bind fun bt471=>(if bt471.2 = 0 then (if bt471.1 < (l0.length:Int) then (some (([]:List Int),3)) else (zAX.l0 k l0 ([]:List Int) 0)) else (some (([]:List Int),bt471.2))))) = some (r1,r2):=h;clear h;by_cases c2:(l0.length:Int) > 60
 ·rw [if_pos c2] at H;have c2b0:decide (60 < (l0.length:Int)) = true:=zQ c2;have c2b1:decide (60 < l0.length) = true:=zQ (by omega);clear c2;obtain ⟨rfl,rfl⟩:=qP H;go_enter Tryz.func93,Tryz.ntmps93;go_wp2;go_ret2;exact ⟨_,qe,ql,qb⟩
 ·rw [if_neg c2] at H;have c2b0:decide (60 < (l0.length:Int)) = false:=zR c2;have c2b1:decide (60 < l0.length) = false:=zR (by omega);clear c2;replace H:=zb.mp H;obtain ⟨⟨t471,t472⟩,A30,H⟩:=H;(try dsimp only at H);have A3:=zA A30;clear A30;rcases qE H with ⟨c4b0,c4b1,H⟩|⟨c4,c4b0,c4b1,H⟩
  ·rcases qj H with ⟨c5b0,H⟩|⟨c5b0,H⟩
   ·obtain ⟨rfl,rfl⟩:=qP H;go_enter Tryz.func93,Tryz.ntmps93;go_wp2_with (first|((with_reducible refine zU (f:=100) rfl ?_);refine gL (some 15) Tryz.func100 #[.slice A0 l0.length c0,.int .i64 0] ?_;(with_reducible refine (zAa.calls k _ _ l0 0 t471 t472 _ (qu HR0.out) HC0.out A3.out).mono ?_);rintro e w' ⟨rfl,⟨nd,rfl⟩⟩;refine ⟨_,rfl,?_⟩));go_ret2;exact ⟨_,qe,ql,qb⟩
   ·have H':=zA H;clear H;go_enter Tryz.func93,Tryz.ntmps93;go_wp2_with (first|((with_reducible refine zU (f:=100) rfl ?_);refine gL (some 15) Tryz.func100 #[.slice A0 l0.length c0,.int .i64 0] ?_;(with_reducible refine (zAa.calls k _ _ l0 0 t471 t472 _ (qu HR0.out) HC0.out A3.out).mono ?_);rintro e w' ⟨rfl,⟨nd,rfl⟩⟩;refine ⟨_,rfl,?_⟩));go_loopg [6,7] k (fun kq v6 v7 w'=>∃ (x6_1:List Int) (x7_1:Int),v7 = .int .i64 x7_1∧Aside0 (zAX.l0 kq l0 x6_1 x7_1 = some (r1,r2))∧Aside0 (kq ≤ k)∧Aside0 (Kd.R (Kd.int .i64) 3 w' w.heap.size (fun _=>True) v6 x6_1)∧Aside0 (Below w.heap.size w w'))
    case atStart=>exact ⟨(([]:List Int)),(0),qr,H',⟨Nat.le_refl _⟩,⟨ql⟩,⟨qb⟩⟩
    case round =>
     clear H';obtain ⟨x6_1,x7_1,rfl,HA,HK1,HO_6,HB⟩:=hrel;cases gk with
     | zero=>exact absurd HA.out (by simp [zAX.l0])
     | succ k1 =>
      have H:=HA.out;clear HA;simp only [zAX.l0] at H;rcases qj H with ⟨c6b0,H⟩|⟨c6b0,H⟩
      ·replace H:=zb.mp H;obtain ⟨⟨t473,t474⟩,A70,H⟩:=H;(try dsimp only at H);have A7:=zA A70;clear A70;by_cases c8:x6_1.length < 17592186044416
       ·rw [if_pos c8] at H;have LMc8:=zA c8;clear c8;generalize hy475:(x6_1 ++ [t473]) = y475 at H;replace hy475:=hy475.symm
        have Ny475:=zA hy475;clear hy475;have H':=zA H;clear H;go_wp2_with (first|((with_reducible refine zU (f:=100) rfl ?_);refine gL (some 34) Tryz.func100 #[.slice A0 l0.length c0,.int .i64 x7_1] ?_;(with_reducible refine (zAa.calls k1 _ _ l0 x7_1 t473 t474 _ (qc HR0) HC0.out A7.out).mono ?_);rintro e w' ⟨rfl,⟨nd,rfl⟩⟩;refine ⟨_,rfl,?_⟩)|((with_reducible refine gate_builtin (b:=.append) (xs:=#[.tmp 37,.tmp 39]) rfl ?_);at_builtin;refine Kd.R_append (Kd.int .i64) (w0:=w) w.heap.size rfl (.tmp 37) (.tmp 39) 39 3 (.int .i64 0) 8 rfl Tryz.underlying39 info3 rfl (by decide) (by omega) u6 x6_1 t473 [.int .i64 t473] (fun _=>True) (fun _=>False) rfl rfl rfl (fun _ hk=>hk.elim) (fun _ _=>trivial) (qR HO_6) qb qs (qo LMc8) ?_;intro v476 w9 ho hb hg hat;rw [← Ny475.out] at ho;replace HB:=zA (hb);have HO477:=zA (ho);clear HO_6;clear ho hb hg hat));go_roundg k1
        case measure=>have:=HK1.out;omega
        case rel=>exact ⟨(y475),(wrap64 (x7_1 + 1)),qr,H',⟨qo HK1⟩,⟨qR HO477⟩,⟨qb⟩⟩
       ·rw [if_neg c8] at H;nomatch H
      ·obtain ⟨rfl,rfl⟩:=qP H;go_wp2;go_ret2;exact ⟨_,qe,qR HO_6,qb⟩
  ·obtain ⟨rfl,rfl⟩:=qP H;go_enter Tryz.func93,Tryz.ntmps93;go_wp2_with (first|((with_reducible refine zU (f:=100) rfl ?_);refine gL (some 15) Tryz.func100 #[.slice A0 l0.length c0,.int .i64 0] ?_;(with_reducible refine (zAa.calls k _ _ l0 0 t471 t472 _ (qu HR0.out) HC0.out A3.out).mono ?_);rintro e w' ⟨rfl,⟨nd,rfl⟩⟩;refine ⟨_,rfl,?_⟩));go_ret2;exact ⟨_,qe,ql,qb⟩
def zA3.f (a0:Int):Option (Bool):=(zAE.f a0 6 12).bind fun t478=>(some t478)
set_option maxHeartbeats 8000000 in
set_option maxRecDepth 100000 in
theorem zA3.calls (a0:Int) (r:Bool) (w:World) (h:zA3.f a0 = some r) :
  Calls Tryz.prog 124 #[.int .i64 a0] w fun e w'=>e = .returned (.bool r)∧Drawn0 w w':=by
 have H:((zAE.f a0 6 12).bind fun t478=>(some t478)) = some r:=h;clear h;replace H:=zb.mp H;obtain ⟨t478,A20,H⟩:=H;(try dsimp only at H);have A2:=zA A20;clear A20;obtain rfl:=Option.some.inj H;go_enter Tryz.func124,Tryz.ntmps124;go_wp2_with (first|((with_reducible refine zU (f:=29) rfl ?_);refine gL (some 4) Tryz.func29 #[.int .i64 a0,.int .i64 6,.int .i64 12] ?_;(with_reducible refine (zAE.calls a0 6 12 t478 _ A2.out).mono ?_);rintro e w' ⟨rfl,⟨nd,rfl⟩⟩;refine ⟨_,rfl,?_⟩));go_ret;exact ⟨qr,qt⟩
def zAt.l0:Nat → List (S96) → Int → List (S96) → Int → Option ((List (S96)))
 | 0,_,_,_,_=>none
 | k + 1,x0,x2,x7,x8=>if x8 < x2 then (if 0 ≤ x8 then (if x8 < (x0.length:Int) then (if x7.length < 8796093022208 then (zAt.l0 k x0 x2 (x7 ++ [(⟨(zAI x0 x8).f0,(zAI x0 x8).f1⟩:S96)]) (wrap64 (x8 + 1))) else (none)) else (none)) else (none)) else (some x7)
def zAt.f (k:Nat) (l0:List (S96)) (a1:Int) (a2:Int):Option ((List (S96))):=zAt.l0 k l0 a2 ([]:List (S96)) a1
theorem zAt.mono_l:∀ k,(∀ y0 y1 y2 y3,LeO (zAt.l0 k y0 y1 y2 y3) (zAt.l0 (k + 1) y0 y1 y2 y3))
 | 0=>fun _ _ _ _ r h=>by simp [zAt.l0] at h
 | k + 1=>by
  have ih0:=zAt.mono_l k
  ·intro y0 y1 y2 y3
   unfold zAt.l0
   exact qL
theorem zAt.mono:∀ a0 a1 a2 k,LeO (zAt.f k a0 a1 a2) (zAt.f (k + 1) a0 a1 a2):=by
 intro a0 a1 a2 k;have ih0:=zAt.mono_l k;unfold zAt.f;exact qL
set_option maxHeartbeats 8000000 in
set_option maxRecDepth 100000 in
theorem zAt.calls (k:Nat) (A0:Option Addr) (c0:Nat) (l0:List (S96)) (a1:Int) (a2:Int) (r:List (S96)) (w:World) (hr0:Kd.C k96 w A0 l0.length l0) (hc0:l0.length ≤ c0) (h:zAt.f k l0 a1 a2 = some r) :
  Calls Tryz.prog 145 #[.slice A0 l0.length c0,.int .i64 a1,.int .i64 a2] w fun e w'=>∃ v0_:Value,e = .returned (v0_)∧Kd.R k96 96 w' w.heap.size (fun _=>True) v0_ r∧Below w.heap.size w w':=by
 have hu96:=Tryz.underlying96;have HR0:=zA hr0;have HC0:=zA hc0;clear hr0 hc0;have HB:=zA (Below.refl w.heap.size w);have H:(zAt.l0 k l0 a2 ([]:List (S96)) a1) = some r:=h;clear h;have H':=zA H;clear H;go_enter Tryz.func145,Tryz.ntmps145;go_wp2;go_loopg [7,8] k (fun kq v7 v8 w'=>∃ (x7_1:List (S96)) (x8_1:Int),v8 = .int .i64 x8_1∧Aside0 (zAt.l0 kq l0 a2 x7_1 x8_1 = some r)∧Aside0 (kq ≤ k)∧Aside0 (Kd.R k96 96 w' w.heap.size (fun _=>True) v7 x7_1)∧Aside0 (Below w.heap.size w w'))
 case atStart=>exact ⟨(([]:List (S96))),(a1),qr,H',⟨Nat.le_refl _⟩,⟨ql⟩,⟨qb⟩⟩
 case round =>
  clear H';obtain ⟨x7_1,x8_1,rfl,HA,HK1,HO_7,HB⟩:=hrel;cases gk with
  | zero=>exact absurd HA.out (by simp [zAt.l0])
  | succ k1 =>
   have H:=HA.out;clear HA;simp only [zAt.l0] at H;rcases qj H with ⟨c4b0,H⟩|⟨c4b0,H⟩
   ·rcases qj H with ⟨c5b0,H⟩|⟨c5,H⟩
    ·rcases qj H with ⟨c6b0,H⟩|⟨c6,H⟩
     ·by_cases c7:x7_1.length < 8796093022208
      ·rw [if_pos c7] at H;have LMc7:=zA c7;clear c7;generalize hy480:(x7_1 ++ [(⟨(zAI l0 x8_1).f0,(zAI l0 x8_1).f1⟩:S96)]) = y480 at H;replace hy480:=hy480.symm
       have Ny480:=zA hy480;clear hy480;have H':=zA H;clear H;have p479:0 ≤ (x8_1:Int):=qd;have q479:x8_1 < (l0.length:Int):=qd;obtain ⟨ad479,e479,hx479_0,hx479_1⟩:=zA6 (qW HR0 HB) x8_1 p479 q479;cases e479;replace p479:=qT p479;replace q479:=qT q479;go_wp2_with (first|((with_reducible refine gate_builtin (b:=.append) (xs:=#[.tmp 15,.tmp 20]) rfl ?_);at_builtin;refine Kd.R_append k96 (w0:=w) w.heap.size rfl (.tmp 15) (.tmp 20) 27 96 (.agg #[(.int .i64 0),(.int .i64 0)]) 16 rfl Tryz.underlying27 info96 rfl (by decide) (by omega) u7 x7_1 (⟨(zAI l0 x8_1).f0,(zAI l0 x8_1).f1⟩:S96) [.int .i64 ((zAI l0 x8_1).f0),.int .i64 ((zAI l0 x8_1).f1)] (fun _=>True) (fun _=>False) rfl rfl (k96_mkM _ _ _ (⟨(zAI l0 x8_1).f0,(zAI l0 x8_1).f1⟩:S96)) (fun _ hk=>hk.elim) (fun _ _=>trivial) (qR HO_7) qb qs (qo LMc7) ?_;intro v481 w8 ho hb hg hat;rw [← Ny480.out] at ho;replace HB:=zA (hb);have HO482:=zA (ho);clear HO_7;clear ho hb hg hat));go_roundg k1
       case measure=>have:=HK1.out;omega
       case rel=>exact ⟨(y480),(wrap64 (x8_1 + 1)),qr,H',⟨qo HK1⟩,⟨qR HO482⟩,⟨qb⟩⟩
      ·rw [if_neg c7] at H;nomatch H
     ·nomatch H
    ·nomatch H
   ·obtain rfl:=Option.some.inj H;go_wp2;go_ret;exact ⟨_,qe,qR HO_7,qb⟩
def zAg.l0:Nat → List (S96) → List (List (S96)) → Int → Int → Int → Option ((List (List (S96))) × Int)
 | 0,_,_,_,_,_=>none
 | k + 1,x0,x6,x7,x9,x10=>if x10 < x7 then ((zAa.f k x0 x9).bind fun bt490=>((zAt.f k x0 x9 bt490.1).bind fun t492=>(if x6.length < 5864062014805 then (zAg.l0 k x0 (x6 ++ [t492]) x7 bt490.1 (wrap64 (x10 + 1))) else (none)))) else (some (x6,0))
def zAg.f (k:Nat) (l0:List (S96)):Option ((List (List (S96))) × Int):=(zAX.f k l0).bind fun bt483=>(if bt483.2 = 0 then (if 0 < (l0.length:Int) then ((zAP.f k ((zAI l0 0).f0)).bind fun bt488=>(zAg.l0 k l0 ([]:List (List (S96))) bt488.1 1 0)) else (none)) else (some (([]:List (List (S96))),bt483.2)))
theorem zAg.mono_l:∀ k,(∀ y0 y1 y2 y3 y4,LeO (zAg.l0 k y0 y1 y2 y3 y4) (zAg.l0 (k + 1) y0 y1 y2 y3 y4))
 | 0=>fun _ _ _ _ _ r h=>by simp [zAg.l0] at h
 | k + 1=>by
  have ih0:=zAg.mono_l k
  ·intro y0 y1 y2 y3 y4
   unfold zAg.l0
   exact qM (And.intro @zAX.mono (And.intro @zAt.mono (And.intro @zAP.mono @zAa.mono)))
theorem zAg.mono:∀ a0 k,LeO (zAg.f k a0) (zAg.f (k + 1) a0):=by
 intro a0 k;have ih0:=zAg.mono_l k;unfold zAg.f;exact qM (And.intro @zAX.mono (And.intro @zAt.mono (And.intro @zAP.mono @zAa.mono)))
set_option maxHeartbeats 8000000 in
set_option maxRecDepth 100000 in
theorem zAg.calls (k:Nat) (A0:Option Addr) (c0:Nat) (l0:List (S96)) (r1:List (List (S96))) (r2:Int) (w:World) (hr0:Kd.C k96 w A0 l0.length l0) (hc0:l0.length ≤ c0) (h:zAg.f k l0 = some (r1,r2)) :
  Calls Tryz.prog 125 #[.slice A0 l0.length c0] w fun e w'=>∃ v0_:Value,e = .returned (.tuple #[v0_,.int .i64 r2])∧Kd.S (Kd.slice 96 k96) 27 w' w.heap.size (fun _=>True) v0_ r1∧Below w.heap.size w w':=by
 have HR0:=zA hr0;have HC0:=zA hc0;clear hr0 hc0;have HB:=zA (Below.refl w.heap.size w);have H:((zAX.f k l0).bind fun bt483=>(if bt483.2 = 0 then (if 0 < (l0.length:Int) then ((zAP.f k ((zAI l0 0).f0)).bind fun bt488=>(zAg.l0 k l0 ([]:List (List (S96))) bt488.1 1 0)) else (none)) else (some (([]:List (List (S96))),bt483.2)))) = some (r1,r2):=h;clear h;replace H:=zb.mp H;obtain ⟨⟨t483,t484⟩,A20,H⟩:=H;(try dsimp only at H);have A2:=zA A20;clear A20;rcases qE H with ⟨c3b0,c3b1,H⟩|⟨c3,c3b0,c3b1,H⟩
 ·by_cases c4:0 < (l0.length:Int)
  ·rw [if_pos c4] at H;have c4b0:decide (0 < (l0.length:Int)) = true:=zQ c4;have c4b1:decide (0 < l0.length) = true:=zQ (by omega);clear c4;replace H:=zb.mp H;obtain ⟨⟨t488,t489⟩,A50,H⟩:=H;(try dsimp only at H);have A5:=zA A50;clear A50;have H':=zA H;clear H;go_enter Tryz.func125,Tryz.ntmps125;go_wp2_with (first|((with_reducible refine zU (f:=93) rfl ?_);refine gL (some 16) Tryz.func93 #[.slice A0 l0.length c0] ?_;(with_reducible refine (zAX.calls k _ _ l0 t483 t484 _ (qu HR0.out) HC0.out A2.out).mono ?_);rintro e w6 ⟨v485,rfl,ho0,hb⟩;refine ⟨_,rfl,?_⟩;have HO486:=zA (Kd.R_lower ho0 qs);replace HB:=zA (zH qb hb);clear ho0 hb;have p487:0 ≤ (0:Int):=(by omega);have q487:0 < (l0.length:Int):=qd;obtain ⟨ad487,e487,hx487_0,hx487_1⟩:=zA6 HR0.out 0 p487 q487;cases e487;have qi487:(0 < l0.length) = True:=qT (by omega);(try rw [show ((0:Int)).toNat = 0 from rfl] at hx487_0);(try rw [show 0 * 2 = 0 from rfl] at hx487_0);(try rw [Addr.add_zero'] at hx487_0);(try rw [show ((0:Int)).toNat = 0 from rfl] at hx487_1);(try rw [show 0 * 2 = 0 from rfl] at hx487_1);(try rw [Addr.add_zero'] at hx487_1);replace hx487_0:=qy HB hx487_0;replace hx487_1:=qy HB hx487_1;replace p487:=qT p487;replace q487:=qT q487)|((with_reducible refine zU (f:=126) rfl ?_);refine gL (some 27) Tryz.func126 #[.int .i64 ((zAI l0 0).f0)] ?_;(with_reducible refine (zAP.calls k ((zAI l0 0).f0) t488 t489 _ A5.out).mono ?_);rintro e w' ⟨rfl,⟨nd,rfl⟩⟩;refine ⟨_,rfl,?_⟩));go_loopg [6,9,10] k (fun kq v6 v9 v10 w'=>∃ (x6_1:List (List (S96))) (x9_1:Int) (x10_1:Int),v9 = .int .i64 x9_1∧v10 = .int .i64 x10_1∧Aside0 (zAg.l0 kq l0 x6_1 t488 x9_1 x10_1 = some (r1,r2))∧Aside0 (kq ≤ k)∧Aside0 (Kd.S (Kd.slice 96 k96) 27 w' w.heap.size (fun _=>True) v6 x6_1)∧Aside0 (Below w.heap.size w w'))
   case atStart=>exact ⟨(([]:List (List (S96)))),(1),(0),qr,qr,H',⟨Nat.le_refl _⟩,⟨by first|exact Kd.S_nil _ _ _ _ _|exact Kd.N_nil _ _ _ _ _|exact Kd.V_nil _ _ _ _ _|exact Kd.Q_nil _ _ _ _ _|exact Kd.R_nil _ _ _ _ _⟩,⟨qb⟩⟩
   case round =>
    clear H';obtain ⟨x6_1,x9_1,x10_1,rfl,rfl,HA,HK1,HO_6,HB⟩:=hrel;cases gk with
    | zero=>exact absurd HA.out (by simp [zAg.l0])
    | succ k1 =>
     have H:=HA.out;clear HA;simp only [zAg.l0] at H;rcases qj H with ⟨c7b0,H⟩|⟨c7b0,H⟩
     ·replace H:=zb.mp H;obtain ⟨⟨t490,t491⟩,A80,H⟩:=H;(try dsimp only at H);have A8:=zA A80;clear A80;replace H:=zb.mp H;obtain ⟨t492,A90,H⟩:=H;(try dsimp only at H);have A9:=zA A90;clear A90;by_cases c10:x6_1.length < 5864062014805
      ·rw [if_pos c10] at H;have LMc10:=zA c10;clear c10;generalize hy495:(x6_1 ++ [t492]) = y495 at H;replace hy495:=hy495.symm
       have Ny495:=zA hy495;clear hy495;have H':=zA H;clear H;go_wp2_with (first|((with_reducible refine zU (f:=100) rfl ?_);refine gL (some 38) Tryz.func100 #[.slice (some ad487) l0.length c0,.int .i64 x9_1] ?_;(with_reducible refine (zAa.calls k1 _ _ l0 x9_1 t490 t491 _ (qc HR0) HC0.out A8.out).mono ?_);rintro e w' ⟨rfl,⟨nd,rfl⟩⟩;refine ⟨_,rfl,?_⟩)|((with_reducible refine zU (f:=145) rfl ?_);refine gL (some 44) Tryz.func145 #[.slice (some ad487) l0.length c0,.int .i64 x9_1,.int .i64 t490] ?_;(with_reducible refine (zAt.calls k1 _ _ l0 x9_1 t490 t492 _ (qu (zT HR0.out qb)) HC0.out A9.out).mono ?_);rintro e w11 ⟨v493,rfl,ho0,hb⟩;refine ⟨_,rfl,?_⟩;replace HO_6:=zA (Kd.S_elder' (qS HO_6) (Kd.R_base ho0) hb);have HO494:=zA (Kd.R_lower ho0 qs);replace HB:=zA (zH qb hb);clear ho0 hb;obtain ⟨Ao13,co13,eo13⟩:=Kd.R_slice HO494.out;subst eo13)|((with_reducible refine gate_builtin (b:=.append) (xs:=#[.tmp 45,.tmp 47]) rfl ?_);at_builtin;refine Kd.S_append (Kd.slice 96 k96) (w0:=w) w.heap.size rfl (.tmp 45) (.tmp 47) 26 27 (.slice none 0 0) 24 rfl Tryz.underlying26 info27 rfl (by decide) (by omega) u6 x6_1 t492 [.slice Ao13 t492.length co13] (fun _=>True) (fun k_=>some k_ = (.slice Ao13 t492.length co13:Value).ownBlock) rfl rfl (Kd.M_row (Kd.R_mono (Kd.R_tight rfl (Kd.R_mono (ok':=fun k_=>((fun _=>True)) k_∧some k_ ≠ (u6:Value).ownBlock) (Kd.R_apart' (HO494.out) (Kd.S_typed HO_6.out) (by decide)) (fun k_ hk=>⟨trivial,hk.2⟩))) (fun _ h_=>h_))) (fun k_ hk_=>((Kd.R_mono (ok':=fun k_=>((fun _=>True)) k_∧some k_ ≠ (u6:Value).ownBlock) (Kd.R_apart' (HO494.out) (Kd.S_typed HO_6.out) (by decide)) (fun k_ hk=>⟨trivial,hk.2⟩))).1 k_ hk_.symm) (fun _ _=>trivial) ?aO qb qs (qo LMc10) ?_;(case aO=>exact (by (with_reducible repeat (first|apply Kd.S_alloc|apply Kd.S_drewN|apply Kd.S_drew));exact Kd.S_mono HO_6.out (fun k_ hk=>⟨trivial,fun e_=>hk.2 e_⟩)));intro v496 w12 ho hb hg hat;rw [← Ny495.out] at ho;replace HB:=zA (hb);have HO497:=zA (ho);clear HO_6 HO494;clear ho hb hg hat));go_roundg k1
       case measure=>have:=HK1.out;omega
       case rel=>exact ⟨(y495),(t490),(wrap64 (x10_1 + 1)),qr,qr,H',⟨qo HK1⟩,⟨qS HO497⟩,⟨qb⟩⟩
      ·rw [if_neg c10] at H;nomatch H
     ·obtain ⟨rfl,rfl⟩:=qP H;go_wp2;go_ret2;exact ⟨_,qe,qS HO_6,qb⟩
  ·rw [if_neg c4] at H;nomatch H
 ·obtain ⟨rfl,rfl⟩:=qP H;go_enter Tryz.func125,Tryz.ntmps125;go_wp2_with (first|((with_reducible refine zU (f:=93) rfl ?_);refine gL (some 16) Tryz.func93 #[.slice A0 l0.length c0] ?_;(with_reducible refine (zAX.calls k _ _ l0 t483 t484 _ (qu HR0.out) HC0.out A2.out).mono ?_);rintro e w14 ⟨v485,rfl,ho0,hb⟩;refine ⟨_,rfl,?_⟩;have HO486:=zA (Kd.R_lower ho0 qs);replace HB:=zA (zH qb hb);clear ho0 hb));go_ret2;exact ⟨_,qe,by first|exact Kd.S_nil _ _ _ _ _|exact Kd.N_nil _ _ _ _ _|exact Kd.V_nil _ _ _ _ _|exact Kd.Q_nil _ _ _ _ _|exact Kd.R_nil _ _ _ _ _,qb⟩
def zA9.f (a0:Int):Option (Bool):=(zAE.f a0 8 10).bind fun t498=>(some t498)
set_option maxHeartbeats 8000000 in
set_option maxRecDepth 100000 in
theorem zA9.calls (a0:Int) (r:Bool) (w:World) (h:zA9.f a0 = some r) :
  Calls Tryz.prog 144 #[.int .i64 a0] w fun e w'=>e = .returned (.bool r)∧Drawn0 w w':=by
 have H:((zAE.f a0 8 10).bind fun t498=>(some t498)) = some r:=h;clear h;replace H:=zb.mp H;obtain ⟨t498,A20,H⟩:=H;(try dsimp only at H);have A2:=zA A20;clear A20;obtain rfl:=Option.some.inj H;go_enter Tryz.func144,Tryz.ntmps144;go_wp2_with (first|((with_reducible refine zU (f:=29) rfl ?_);refine gL (some 4) Tryz.func29 #[.int .i64 a0,.int .i64 8,.int .i64 10] ?_;(with_reducible refine (zAE.calls a0 8 10 t498 _ A2.out).mono ?_);rintro e w' ⟨rfl,⟨nd,rfl⟩⟩;refine ⟨_,rfl,?_⟩));go_ret;exact ⟨qr,qt⟩
end Go.Proofs.YtgdijfhdpgdanaaGreatDoor.B
