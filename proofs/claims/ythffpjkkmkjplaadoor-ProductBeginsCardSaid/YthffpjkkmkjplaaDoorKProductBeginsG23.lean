import Derived.Test.YthffpjkkmkjplaaDoorKProductBeginsG9
import Derived.Test.YthffpjkkmkjplaaDoorKProductBeginsG22
import Derived.Test.YthffpjkkmkjplaaDoorKProductBeginsG15
import Derived.Test.YthffpjkkmkjplaaDoorKProductBeginsG21
namespace Go.Proofs.YthffpjkkmkjplaaDoor.S
open Go.Proofs.YthffpjkkmkjplaaDoor.Al
open Option renaming bind_eq_some_iff → zb
open Go.Proofs.YthffpjkkmkjplaaDoorW.PrintWords renaming gate_callee → zU
open Go.Proofs.YthffpjkkmkjplaaDoor.Sq
open Go.RowKit Go.Proofs.YthffpjkkmkjplaaDoorW.PrintWords Go.Proofs.YthffpjkkmkjplaaDoorW.PrintLast Go.Proofs.YthffpjkkmkjplaaDoorW.PrintMore
attribute [local go_sem] max2_int min2_int max_two min_two max_three min_three max_four min_four
set_option linter.unusedVariables false
set_option linter.unusedSimpArgs false
mutual
def foretellref_truthAt.j0:Nat → List (S65) → Int → List Bool → List Int → Int → Bool → Option (Bool)
 | 0,_,_,_,_,_,_=>none
 | k + 1,x0,x1,x2,x3,x4,x43=>if x43 = true then ((foretellref_truthAt.f k x0 (wrap64 (x1 + 1)) x2 x3 x4).bind fun t469=>((foretellref_secondAt.f k x0 x1).bind fun t470=>((foretellref_truthAt.f k x0 t470 x2 x3 x4).bind fun t471=>(if t469 = true then (if t471 = true then (some true) else (if 0 ≤ x1 then (if x1 < (x0.length:Int) then (if ((rd_T65 x0 x1).f0) = 9 then (some true) else (some false)) else (none)) else (none))) else (if 0 ≤ x1 then (if x1 < (x0.length:Int) then (if ((rd_T65 x0 x1).f0) = 9 then (some t471) else (some false)) else (none)) else (none)))))) else (foretellref_truthAt.l0 k x1 x3 x4 0)
def foretellref_truthAt.l0:Nat → Int → List Int → Int → Int → Option (Bool)
 | 0,_,_,_,_=>none
 | k + 1,x1,x3,x4,x13=>if x13 < (x3.length:Int) then (if 0 ≤ x13 then (if (rd x3 x13) = x1 then (some ((Int.tmod x4 2) == 1)) else (foretellref_truthAt.l0 k x1 x3 (wrap64 (Int.tdiv x4 2)) (wrap64 (x13 + 1)))) else (none)) else (some false)
def foretellref_truthAt.f:Nat → List (S65) → Int → List Bool → List Int → Int → Option (Bool)
 | 0,_,_,_,_,_=>none
 | k + 1,l0,a1,l2,l3,a4=>if 0 ≤ a1 then (if a1 < (l0.length:Int) then (if ((rd_T65 l0 a1).f0) = 13 then (if 0 ≤ ((rd_T65 l0 a1).f1) then (if ((rd_T65 l0 a1).f1) < (l2.length:Int) then (some (rdOf false l2 ((rd_T65 l0 a1).f1))) else (none)) else (none)) else (if ((rd_T65 l0 a1).f0) = 11 then (some true) else (if ((rd_T65 l0 a1).f0) = 12 then (some false) else (if ((rd_T65 l0 a1).f0) = 10 then ((foretellref_truthAt.f k l0 (wrap64 (a1 + 1)) l2 l3 a4).bind fun t468=>(some (!t468))) else (if ((rd_T65 l0 a1).f0) = 8 then (foretellref_truthAt.j0 k l0 a1 l2 l3 a4 (((rd_T65 l0 a1).f0) == 8)) else (foretellref_truthAt.j0 k l0 a1 l2 l3 a4 (((rd_T65 l0 a1).f0) == 9))))))) else (none)) else (none)
end
theorem foretellref_truthAt.mono_l:∀ k,(∀ y0 y1 y2 y3 y4,LeO (foretellref_truthAt.f k y0 y1 y2 y3 y4) (foretellref_truthAt.f (k + 1) y0 y1 y2 y3 y4))∧(∀ y0 y1 y2 y3 y4 y5,LeO (foretellref_truthAt.j0 k y0 y1 y2 y3 y4 y5) (foretellref_truthAt.j0 (k + 1) y0 y1 y2 y3 y4 y5))∧(∀ y0 y1 y2 y3,LeO (foretellref_truthAt.l0 k y0 y1 y2 y3) (foretellref_truthAt.l0 (k + 1) y0 y1 y2 y3))
 | 0=>⟨fun _ _ _ _ _ r h=>by simp [foretellref_truthAt.f] at h,fun _ _ _ _ _ _ r h=>by simp [foretellref_truthAt.j0] at h,fun _ _ _ _ r h=>by simp [foretellref_truthAt.l0] at h⟩
 | k + 1=>by
  obtain ⟨ih0,ih1,ih2⟩:=foretellref_truthAt.mono_l k
  refine ⟨?_,?_,?_⟩
  ·intro y0 y1 y2 y3 y4
   unfold foretellref_truthAt.f
   exact qM @foretellref_secondAt.mono
  ·intro y0 y1 y2 y3 y4 y5
   unfold foretellref_truthAt.j0
   exact qM @foretellref_secondAt.mono
  ·intro y0 y1 y2 y3
   unfold foretellref_truthAt.l0
   exact qM @foretellref_secondAt.mono
theorem foretellref_truthAt.mono:∀ a0 a1 a2 a3 a4 k,LeO (foretellref_truthAt.f k a0 a1 a2 a3 a4) (foretellref_truthAt.f (k + 1) a0 a1 a2 a3 a4):=by
 intro a0 a1 a2 a3 a4 k
 obtain ⟨ih0,ih1,ih2⟩:=foretellref_truthAt.mono_l k
 exact ih0 a0 a1 a2 a3 a4
set_option maxHeartbeats 8000000 in
set_option maxRecDepth 100000 in
theorem foretellref_truthAt.calls (k:Nat):∀ (A0:Option Addr) (c0:Nat) (l0:List (S65)) (a1:Int) (A2:Option Addr) (c2:Nat) (l2:List Bool) (A3:Option Addr) (c3:Nat) (l3:List Int) (a4:Int) (r:Bool) (w:World) (hr0:Kd.C k65 w A0 l0.length l0) (hc0:l0.length ≤ c0) (hr2:Kd.C Kd.bool w A2 l2.length l2) (hc2:l2.length ≤ c2) (hr3:Kd.C (Kd.int .i64) w A3 l3.length l3) (hc3:l3.length ≤ c3) (h:foretellref_truthAt.f k l0 a1 l2 l3 a4 = some r),
  Calls Tryd.prog 62 #[.slice A0 l0.length c0,.int .i64 a1,.slice A2 l2.length c2,.slice A3 l3.length c3,.int .i64 a4] w fun e w'=>e = .returned (.bool r)∧Drawn0 w w':=by
 induction k using Nat.strongRecOn with
 | _ k ih =>
 intro A0 c0 l0 a1 A2 c2 l2 A3 c3 l3 a4 r w hr0 hc0 hr2 hc2 hr3 hc3 h
 cases k with
 | zero=>exact absurd h (by simp [foretellref_truthAt.f])
 | succ k =>
 simp only [foretellref_truthAt.f] at h
 have HR0:=zA hr0
 have HC0:=zA hc0
 clear hr0 hc0
 have HR2:=zA hr2
 have HC2:=zA hc2
 clear hr2 hc2
 have HR3:=zA hr3
 have HC3:=zA hc3
 clear hr3 hc3
 have H:(if 0 ≤ a1 then (if a1 < (l0.length:Int) then (if ((rd_T65 l0 a1).f0) = 13 then (if 0 ≤ ((rd_T65 l0 a1).f1) then (if ((rd_T65 l0 a1).f1) < (l2.length:Int) then (some (rdOf false l2 ((rd_T65 l0 a1).f1))) else (none)) else (none)) else (if ((rd_T65 l0 a1).f0) = 11 then (some true) else (if ((rd_T65 l0 a1).f0) = 12 then (some false) else (if ((rd_T65 l0 a1).f0) = 10 then ((foretellref_truthAt.f k l0 (wrap64 (a1 + 1)) l2 l3 a4).bind fun t468=>(some (!t468))) else (if ((rd_T65 l0 a1).f0) = 8 then (foretellref_truthAt.j0 k l0 a1 l2 l3 a4 (((rd_T65 l0 a1).f0) == 8)) else (foretellref_truthAt.j0 k l0 a1 l2 l3 a4 (((rd_T65 l0 a1).f0) == 9))))))) else (none)) else (none)) = some r:=h
 clear h
 rcases qj H with ⟨c6b0,H⟩|⟨c6,H⟩
 ·rcases qj H with ⟨c7b0,H⟩|⟨c7,H⟩
  ·by_cases c8:((rd_T65 l0 a1).f0) = 13
   ·rw [if_pos c8] at H
    have c8b0:(((rd_T65 l0 a1).f0) == 13) = true:=beq_iff_eq.mpr c8
    have c8b1:(((rd_T65 l0 a1).f0) != 13) = false:=bne_eq_false_iff_eq.mpr c8
    clear c8
    rcases qj H with ⟨c9b0,H⟩|⟨c9,H⟩
    ·rcases qj H with ⟨c10b0,H⟩|⟨c10,H⟩
     ·obtain rfl:=Option.some.inj H
      have p465:0 ≤ (a1:Int):=qd
      have q465:a1 < (l0.length:Int):=qd
      obtain ⟨ad465,e465,hx465_0,hx465_1⟩:=at_T65 HR0.out a1 p465 q465
      cases e465
      replace p465:=eq_true p465
      replace q465:=eq_true q465
      have p466:0 ≤ (a1:Int):=qd
      have q466:a1 < (l0.length:Int):=qd
      obtain ⟨ad466,e466,hx466_0,hx466_1⟩:=at_T65 HR0.out a1 p466 q466
      obtain rfl:ad465 = ad466:=(by injection e466)
      replace p466:=eq_true p466
      replace q466:=eq_true q466
      have p467:0 ≤ (((rd_T65 l0 a1).f1):Int):=qd
      have q467:((rd_T65 l0 a1).f1) < (l2.length:Int):=qd
      obtain ⟨ad467,e467,hx467_0⟩:=Kd.at_bool HR2.out ((rd_T65 l0 a1).f1) p467 q467
      cases e467
      replace p467:=eq_true p467
      replace q467:=eq_true q467
      go_enter Tryd.func62,Tryd.ntmps62
      go_wp2
      go_ret
      exact ⟨qr,qt⟩
     ·exact absurd H (by simp)
    ·exact absurd H (by simp)
   ·rw [if_neg c8] at H
    have c8b0:(((rd_T65 l0 a1).f0) == 13) = false:=beq_eq_false_iff_ne.mpr c8
    have c8b1:(((rd_T65 l0 a1).f0) != 13) = true:=bne_iff_ne.mpr c8
    by_cases c11:((rd_T65 l0 a1).f0) = 11
    ·rw [if_pos c11] at H
     have c11b0:(((rd_T65 l0 a1).f0) == 11) = true:=beq_iff_eq.mpr c11
     have c11b1:(((rd_T65 l0 a1).f0) != 11) = false:=bne_eq_false_iff_eq.mpr c11
     clear c11
     obtain rfl:=Option.some.inj H
     have p465:0 ≤ (a1:Int):=qd
     have q465:a1 < (l0.length:Int):=qd
     obtain ⟨ad465,e465,hx465_0,hx465_1⟩:=at_T65 HR0.out a1 p465 q465
     cases e465
     replace p465:=eq_true p465
     replace q465:=eq_true q465
     go_enter Tryd.func62,Tryd.ntmps62
     go_wp2
     go_ret
     exact ⟨qr,qt⟩
    ·rw [if_neg c11] at H
     have c11b0:(((rd_T65 l0 a1).f0) == 11) = false:=beq_eq_false_iff_ne.mpr c11
     have c11b1:(((rd_T65 l0 a1).f0) != 11) = true:=bne_iff_ne.mpr c11
     by_cases c12:((rd_T65 l0 a1).f0) = 12
     ·rw [if_pos c12] at H
      have c12b0:(((rd_T65 l0 a1).f0) == 12) = true:=beq_iff_eq.mpr c12
      have c12b1:(((rd_T65 l0 a1).f0) != 12) = false:=bne_eq_false_iff_eq.mpr c12
      clear c12
      obtain rfl:=Option.some.inj H
      have p465:0 ≤ (a1:Int):=qd
      have q465:a1 < (l0.length:Int):=qd
      obtain ⟨ad465,e465,hx465_0,hx465_1⟩:=at_T65 HR0.out a1 p465 q465
      cases e465
      replace p465:=eq_true p465
      replace q465:=eq_true q465
      go_enter Tryd.func62,Tryd.ntmps62
      go_wp2
      go_ret
      exact ⟨qr,qt⟩
     ·rw [if_neg c12] at H
      have c12b0:(((rd_T65 l0 a1).f0) == 12) = false:=beq_eq_false_iff_ne.mpr c12
      have c12b1:(((rd_T65 l0 a1).f0) != 12) = true:=bne_iff_ne.mpr c12
      by_cases c13:((rd_T65 l0 a1).f0) = 10
      ·rw [if_pos c13] at H
       have c13b0:(((rd_T65 l0 a1).f0) == 10) = true:=beq_iff_eq.mpr c13
       have c13b1:(((rd_T65 l0 a1).f0) != 10) = false:=bne_eq_false_iff_eq.mpr c13
       clear c13
       replace H:=zb.mp H
       obtain ⟨t468,A140,H⟩:=H
       replace H:(some (!t468)) = some r:=H
       have A14:=zA A140
       clear A140
       obtain rfl:=Option.some.inj H
       have p465:0 ≤ (a1:Int):=qd
       have q465:a1 < (l0.length:Int):=qd
       obtain ⟨ad465,e465,hx465_0,hx465_1⟩:=at_T65 HR0.out a1 p465 q465
       cases e465
       replace p465:=eq_true p465
       replace q465:=eq_true q465
       go_enter Tryd.func62,Tryd.ntmps62
       go_wp2_with (first|((with_reducible refine zU (f:=62) rfl ?_);refine gL (some 41) Tryd.func62 #[.slice (some ad465) l0.length c0,.int .i64 (wrap64 (a1 + 1)),.slice A2 l2.length c2,.slice A3 l3.length c3,.int .i64 a4] ?_;(with_reducible refine (ih k (by omega) _ _ l0 (wrap64 (a1 + 1)) _ _ l2 _ _ l3 a4 t468 _ (qu HR0.out) HC0.out (qu HR2.out) HC2.out (qu HR3.out) HC3.out A14.out).mono ?_);rintro e w' ⟨rfl,⟨nd,rfl⟩⟩;refine ⟨_,rfl,?_⟩))
       go_ret
       exact ⟨qr,qt⟩
      ·rw [if_neg c13] at H
       have c13b0:(((rd_T65 l0 a1).f0) == 10) = false:=beq_eq_false_iff_ne.mpr c13
       have c13b1:(((rd_T65 l0 a1).f0) != 10) = true:=bne_iff_ne.mpr c13
       have HC15:=zA H
       clear H
       have p465:0 ≤ (a1:Int):=qd
       have q465:a1 < (l0.length:Int):=qd
       obtain ⟨ad465,e465,hx465_0,hx465_1⟩:=at_T65 HR0.out a1 p465 q465
       cases e465
       replace p465:=eq_true p465
       replace q465:=eq_true q465
       go_enter Tryd.func62,Tryd.ntmps62
       go_upto_if 43 with (fail)
       go_cut [43] (fun v43 wc=>∃ (kq:Nat) (x43_14:Bool),v43 = .bool x43_14∧Aside0 (foretellref_truthAt.j0 kq l0 a1 l2 l3 a4 x43_14 = some r)∧Aside0 (kq ≤ k)∧Drawn0 w wc)
       case first =>
        have H:=HC15.out
        clear HC15
        by_cases c16:((rd_T65 l0 a1).f0) = 8
        ·rw [if_pos c16] at H
         have c16b0:(((rd_T65 l0 a1).f0) == 8) = true:=beq_iff_eq.mpr c16
         have c16b1:(((rd_T65 l0 a1).f0) != 8) = false:=bne_eq_false_iff_eq.mpr c16
         clear c16
         (first|rw [c16b0]|(simp only [i64_w,i32_w];rw [c16b0])|skip)
         have H':=zA H
         clear H
         go_wp2
         go_meet
         case rel=>exact ⟨_,((((rd_T65 l0 a1).f0) == 8)),qr,H',⟨qm⟩,qt⟩
        ·rw [if_neg c16] at H
         have c16b0:(((rd_T65 l0 a1).f0) == 8) = false:=beq_eq_false_iff_ne.mpr c16
         have c16b1:(((rd_T65 l0 a1).f0) != 8) = true:=bne_iff_ne.mpr c16
         (first|rw [c16b0]|(simp only [i64_w,i32_w];rw [c16b0])|skip)
         have H':=zA H
         clear H
         go_wp2
         go_meet
         case rel=>exact ⟨_,((((rd_T65 l0 a1).f0) == 9)),qr,H',⟨qm⟩,qt⟩
       case rest =>
        clear HC15
        try clear c1
        try clear c2
        try clear p2
        try clear c3
        try clear p4
        try clear q4
        try clear hx4
        try clear c6
        try clear c6b0
        try clear p6
        try clear c7
        try clear c7b0
        try clear c8
        try clear c8b0
        try clear c8b1
        try clear c9
        try clear c9b0
        try clear c10
        try clear c10b0
        try clear c11
        try clear c11b0
        try clear c11b1
        try clear c12
        try clear c12b0
        try clear c12b1
        try clear c13
        try clear c13b0
        try clear c13b1
        try clear c16
        try clear c16b0
        try clear c16b1
        try clear hx465_0
        try clear hx465_1
        try clear hx466_0
        try clear hx466_1
        try clear hx467_0
        try clear p465
        try clear p466
        try clear p467
        try clear q465
        try clear q466
        try clear q467
        obtain ⟨kq,x43_14,rfl,HA,HJ14,⟨mc14,rfl⟩⟩:=hcut
        cases kq with
        | zero=>exact absurd HA.out (by simp [foretellref_truthAt.j0])
        | succ kj14 =>
         have H:=HA.out
         clear HA
         simp only [foretellref_truthAt.j0] at H
         by_cases c17:x43_14 = true
         ·subst c17
          have H1:((foretellref_truthAt.f kj14 l0 (wrap64 (a1 + 1)) l2 l3 a4).bind fun t469=>((foretellref_secondAt.f kj14 l0 a1).bind fun t470=>((foretellref_truthAt.f kj14 l0 t470 l2 l3 a4).bind fun t471=>(if t469 = true then (if t471 = true then (some true) else (if 0 ≤ a1 then (if a1 < (l0.length:Int) then (if ((rd_T65 l0 a1).f0) = 9 then (some true) else (some false)) else (none)) else (none))) else (if 0 ≤ a1 then (if a1 < (l0.length:Int) then (if ((rd_T65 l0 a1).f0) = 9 then (some t471) else (some false)) else (none)) else (none)))))) = some r:=by rw [if_pos rfl] at H;exact H
          clear H
          have H:=H1
          clear H1
          replace H:=zb.mp H
          obtain ⟨t469,A180,H⟩:=H
          replace H:((foretellref_secondAt.f kj14 l0 a1).bind fun t470=>((foretellref_truthAt.f kj14 l0 t470 l2 l3 a4).bind fun t471=>(if t469 = true then (if t471 = true then (some true) else (if 0 ≤ a1 then (if a1 < (l0.length:Int) then (if ((rd_T65 l0 a1).f0) = 9 then (some true) else (some false)) else (none)) else (none))) else (if 0 ≤ a1 then (if a1 < (l0.length:Int) then (if ((rd_T65 l0 a1).f0) = 9 then (some t471) else (some false)) else (none)) else (none))))) = some r:=H
          have A18:=zA A180
          clear A180
          replace H:=zb.mp H
          obtain ⟨t470,A190,H⟩:=H
          replace H:((foretellref_truthAt.f kj14 l0 t470 l2 l3 a4).bind fun t471=>(if t469 = true then (if t471 = true then (some true) else (if 0 ≤ a1 then (if a1 < (l0.length:Int) then (if ((rd_T65 l0 a1).f0) = 9 then (some true) else (some false)) else (none)) else (none))) else (if 0 ≤ a1 then (if a1 < (l0.length:Int) then (if ((rd_T65 l0 a1).f0) = 9 then (some t471) else (some false)) else (none)) else (none)))) = some r:=H
          have A19:=zA A190
          clear A190
          replace H:=zb.mp H
          obtain ⟨t471,A200,H⟩:=H
          replace H:(if t469 = true then (if t471 = true then (some true) else (if 0 ≤ a1 then (if a1 < (l0.length:Int) then (if ((rd_T65 l0 a1).f0) = 9 then (some true) else (some false)) else (none)) else (none))) else (if 0 ≤ a1 then (if a1 < (l0.length:Int) then (if ((rd_T65 l0 a1).f0) = 9 then (some t471) else (some false)) else (none)) else (none))) = some r:=H
          have A20:=zA A200
          clear A200
          by_cases c21:t469 = true
          ·subst c21
           have H1:(if t471 = true then (some true) else (if 0 ≤ a1 then (if a1 < (l0.length:Int) then (if ((rd_T65 l0 a1).f0) = 9 then (some true) else (some false)) else (none)) else (none))) = some r:=by rw [if_pos rfl] at H;exact H
           clear H
           have H:=H1
           clear H1
           by_cases c22:t471 = true
           ·subst c22
            have H1:(some true) = some r:=by rw [if_pos rfl] at H;exact H
            clear H
            have H:=H1
            clear H1
            obtain rfl:=Option.some.inj H
            go_wp2_with (first|((with_reducible refine zU (f:=62) rfl ?_);refine gL (some 52) Tryd.func62 #[.slice (some ad465) l0.length c0,.int .i64 (wrap64 (a1 + 1)),.slice A2 l2.length c2,.slice A3 l3.length c3,.int .i64 a4] ?_;(with_reducible refine (ih kj14 (qo HJ14) _ _ l0 (wrap64 (a1 + 1)) _ _ l2 _ _ l3 a4 true _ (qu HR0.out) HC0.out (qu HR2.out) HC2.out (qu HR3.out) HC3.out A18.out).mono ?_);rintro e w' ⟨rfl,⟨nd,rfl⟩⟩;refine ⟨_,rfl,?_⟩)|((with_reducible refine zU (f:=77) rfl ?_);refine gL (some 56) Tryd.func77 #[.slice (some ad465) l0.length c0,.int .i64 a1] ?_;(with_reducible refine (foretellref_secondAt.calls kj14 _ _ l0 a1 t470 _ (qu HR0.out) HC0.out A19.out).mono ?_);rintro e w' ⟨rfl,⟨nd,rfl⟩⟩;refine ⟨_,rfl,?_⟩)|((with_reducible refine zU (f:=62) rfl ?_);refine gL (some 60) Tryd.func62 #[.slice (some ad465) l0.length c0,.int .i64 t470,.slice A2 l2.length c2,.slice A3 l3.length c3,.int .i64 a4] ?_;(with_reducible refine (ih kj14 (qo HJ14) _ _ l0 t470 _ _ l2 _ _ l3 a4 true _ (qu HR0.out) HC0.out (qu HR2.out) HC2.out (qu HR3.out) HC3.out A20.out).mono ?_);rintro e w' ⟨rfl,⟨nd,rfl⟩⟩;refine ⟨_,rfl,?_⟩))
            go_ret
            exact ⟨qr,qt⟩
           ·replace c22:=Bool.eq_false_iff.mpr c22
            subst c22
            have H1:(if 0 ≤ a1 then (if a1 < (l0.length:Int) then (if ((rd_T65 l0 a1).f0) = 9 then (some true) else (some false)) else (none)) else (none)) = some r:=by rw [if_neg (show ¬ (false = true) by decide)] at H;exact H
            clear H
            have H:=H1
            clear H1
            rcases qj H with ⟨c23b0,H⟩|⟨c23,H⟩
            ·rcases qj H with ⟨c24b0,H⟩|⟨c24,H⟩
             ·by_cases c25:((rd_T65 l0 a1).f0) = 9
              ·rw [if_pos c25] at H
               have c25b0:(((rd_T65 l0 a1).f0) == 9) = true:=beq_iff_eq.mpr c25
               have c25b1:(((rd_T65 l0 a1).f0) != 9) = false:=bne_eq_false_iff_eq.mpr c25
               clear c25
               obtain rfl:=Option.some.inj H
               go_wp2_with (first|((with_reducible refine zU (f:=62) rfl ?_);refine gL (some 52) Tryd.func62 #[.slice (some ad465) l0.length c0,.int .i64 (wrap64 (a1 + 1)),.slice A2 l2.length c2,.slice A3 l3.length c3,.int .i64 a4] ?_;(with_reducible refine (ih kj14 (qo HJ14) _ _ l0 (wrap64 (a1 + 1)) _ _ l2 _ _ l3 a4 true _ (qu HR0.out) HC0.out (qu HR2.out) HC2.out (qu HR3.out) HC3.out A18.out).mono ?_);rintro e w' ⟨rfl,⟨nd,rfl⟩⟩;refine ⟨_,rfl,?_⟩)|((with_reducible refine zU (f:=77) rfl ?_);refine gL (some 56) Tryd.func77 #[.slice (some ad465) l0.length c0,.int .i64 a1] ?_;(with_reducible refine (foretellref_secondAt.calls kj14 _ _ l0 a1 t470 _ (qu HR0.out) HC0.out A19.out).mono ?_);rintro e w' ⟨rfl,⟨nd,rfl⟩⟩;refine ⟨_,rfl,?_⟩)|((with_reducible refine zU (f:=62) rfl ?_);refine gL (some 60) Tryd.func62 #[.slice (some ad465) l0.length c0,.int .i64 t470,.slice A2 l2.length c2,.slice A3 l3.length c3,.int .i64 a4] ?_;(with_reducible refine (ih kj14 (qo HJ14) _ _ l0 t470 _ _ l2 _ _ l3 a4 false _ (qu HR0.out) HC0.out (qu HR2.out) HC2.out (qu HR3.out) HC3.out A20.out).mono ?_);rintro e w' ⟨rfl,⟨nd,rfl⟩⟩;refine ⟨_,rfl,?_⟩;have p472:0 ≤ (a1:Int):=qd;have q472:a1 < (l0.length:Int):=qd;obtain ⟨ad472,e472,hx472_0,hx472_1⟩:=at_T65 HR0.out a1 p472 q472;obtain rfl:ad465 = ad472:=(by injection e472);replace p472:=eq_true p472;replace q472:=eq_true q472))
               go_ret
               exact ⟨qr,qt⟩
              ·rw [if_neg c25] at H
               have c25b0:(((rd_T65 l0 a1).f0) == 9) = false:=beq_eq_false_iff_ne.mpr c25
               have c25b1:(((rd_T65 l0 a1).f0) != 9) = true:=bne_iff_ne.mpr c25
               obtain rfl:=Option.some.inj H
               go_wp2_with (first|((with_reducible refine zU (f:=62) rfl ?_);refine gL (some 52) Tryd.func62 #[.slice (some ad465) l0.length c0,.int .i64 (wrap64 (a1 + 1)),.slice A2 l2.length c2,.slice A3 l3.length c3,.int .i64 a4] ?_;(with_reducible refine (ih kj14 (qo HJ14) _ _ l0 (wrap64 (a1 + 1)) _ _ l2 _ _ l3 a4 true _ (qu HR0.out) HC0.out (qu HR2.out) HC2.out (qu HR3.out) HC3.out A18.out).mono ?_);rintro e w' ⟨rfl,⟨nd,rfl⟩⟩;refine ⟨_,rfl,?_⟩)|((with_reducible refine zU (f:=77) rfl ?_);refine gL (some 56) Tryd.func77 #[.slice (some ad465) l0.length c0,.int .i64 a1] ?_;(with_reducible refine (foretellref_secondAt.calls kj14 _ _ l0 a1 t470 _ (qu HR0.out) HC0.out A19.out).mono ?_);rintro e w' ⟨rfl,⟨nd,rfl⟩⟩;refine ⟨_,rfl,?_⟩)|((with_reducible refine zU (f:=62) rfl ?_);refine gL (some 60) Tryd.func62 #[.slice (some ad465) l0.length c0,.int .i64 t470,.slice A2 l2.length c2,.slice A3 l3.length c3,.int .i64 a4] ?_;(with_reducible refine (ih kj14 (qo HJ14) _ _ l0 t470 _ _ l2 _ _ l3 a4 false _ (qu HR0.out) HC0.out (qu HR2.out) HC2.out (qu HR3.out) HC3.out A20.out).mono ?_);rintro e w' ⟨rfl,⟨nd,rfl⟩⟩;refine ⟨_,rfl,?_⟩;have p472:0 ≤ (a1:Int):=qd;have q472:a1 < (l0.length:Int):=qd;obtain ⟨ad472,e472,hx472_0,hx472_1⟩:=at_T65 HR0.out a1 p472 q472;obtain rfl:ad465 = ad472:=(by injection e472);replace p472:=eq_true p472;replace q472:=eq_true q472))
               go_ret
               exact ⟨qr,qt⟩
             ·exact absurd H (by simp)
            ·exact absurd H (by simp)
          ·replace c21:=Bool.eq_false_iff.mpr c21
           subst c21
           have H1:(if 0 ≤ a1 then (if a1 < (l0.length:Int) then (if ((rd_T65 l0 a1).f0) = 9 then (some t471) else (some false)) else (none)) else (none)) = some r:=by rw [if_neg (show ¬ (false = true) by decide)] at H;exact H
           clear H
           have H:=H1
           clear H1
           rcases qj H with ⟨c26b0,H⟩|⟨c26,H⟩
           ·rcases qj H with ⟨c27b0,H⟩|⟨c27,H⟩
            ·by_cases c28:((rd_T65 l0 a1).f0) = 9
             ·rw [if_pos c28] at H
              have c28b0:(((rd_T65 l0 a1).f0) == 9) = true:=beq_iff_eq.mpr c28
              have c28b1:(((rd_T65 l0 a1).f0) != 9) = false:=bne_eq_false_iff_eq.mpr c28
              clear c28
              obtain rfl:=Option.some.inj H
              go_wp2_with (first|((with_reducible refine zU (f:=62) rfl ?_);refine gL (some 52) Tryd.func62 #[.slice (some ad465) l0.length c0,.int .i64 (wrap64 (a1 + 1)),.slice A2 l2.length c2,.slice A3 l3.length c3,.int .i64 a4] ?_;(with_reducible refine (ih kj14 (qo HJ14) _ _ l0 (wrap64 (a1 + 1)) _ _ l2 _ _ l3 a4 false _ (qu HR0.out) HC0.out (qu HR2.out) HC2.out (qu HR3.out) HC3.out A18.out).mono ?_);rintro e w' ⟨rfl,⟨nd,rfl⟩⟩;refine ⟨_,rfl,?_⟩)|((with_reducible refine zU (f:=77) rfl ?_);refine gL (some 56) Tryd.func77 #[.slice (some ad465) l0.length c0,.int .i64 a1] ?_;(with_reducible refine (foretellref_secondAt.calls kj14 _ _ l0 a1 t470 _ (qu HR0.out) HC0.out A19.out).mono ?_);rintro e w' ⟨rfl,⟨nd,rfl⟩⟩;refine ⟨_,rfl,?_⟩)|((with_reducible refine zU (f:=62) rfl ?_);refine gL (some 60) Tryd.func62 #[.slice (some ad465) l0.length c0,.int .i64 t470,.slice A2 l2.length c2,.slice A3 l3.length c3,.int .i64 a4] ?_;(with_reducible refine (ih kj14 (qo HJ14) _ _ l0 t470 _ _ l2 _ _ l3 a4 t471 _ (qu HR0.out) HC0.out (qu HR2.out) HC2.out (qu HR3.out) HC3.out A20.out).mono ?_);rintro e w' ⟨rfl,⟨nd,rfl⟩⟩;refine ⟨_,rfl,?_⟩;have p473:0 ≤ (a1:Int):=qd;have q473:a1 < (l0.length:Int):=qd;obtain ⟨ad473,e473,hx473_0,hx473_1⟩:=at_T65 HR0.out a1 p473 q473;obtain rfl:ad465 = ad473:=(by injection e473);replace p473:=eq_true p473;replace q473:=eq_true q473))
              go_ret
              exact ⟨qr,qt⟩
             ·rw [if_neg c28] at H
              have c28b0:(((rd_T65 l0 a1).f0) == 9) = false:=beq_eq_false_iff_ne.mpr c28
              have c28b1:(((rd_T65 l0 a1).f0) != 9) = true:=bne_iff_ne.mpr c28
              obtain rfl:=Option.some.inj H
              go_wp2_with (first|((with_reducible refine zU (f:=62) rfl ?_);refine gL (some 52) Tryd.func62 #[.slice (some ad465) l0.length c0,.int .i64 (wrap64 (a1 + 1)),.slice A2 l2.length c2,.slice A3 l3.length c3,.int .i64 a4] ?_;(with_reducible refine (ih kj14 (qo HJ14) _ _ l0 (wrap64 (a1 + 1)) _ _ l2 _ _ l3 a4 false _ (qu HR0.out) HC0.out (qu HR2.out) HC2.out (qu HR3.out) HC3.out A18.out).mono ?_);rintro e w' ⟨rfl,⟨nd,rfl⟩⟩;refine ⟨_,rfl,?_⟩)|((with_reducible refine zU (f:=77) rfl ?_);refine gL (some 56) Tryd.func77 #[.slice (some ad465) l0.length c0,.int .i64 a1] ?_;(with_reducible refine (foretellref_secondAt.calls kj14 _ _ l0 a1 t470 _ (qu HR0.out) HC0.out A19.out).mono ?_);rintro e w' ⟨rfl,⟨nd,rfl⟩⟩;refine ⟨_,rfl,?_⟩)|((with_reducible refine zU (f:=62) rfl ?_);refine gL (some 60) Tryd.func62 #[.slice (some ad465) l0.length c0,.int .i64 t470,.slice A2 l2.length c2,.slice A3 l3.length c3,.int .i64 a4] ?_;(with_reducible refine (ih kj14 (qo HJ14) _ _ l0 t470 _ _ l2 _ _ l3 a4 t471 _ (qu HR0.out) HC0.out (qu HR2.out) HC2.out (qu HR3.out) HC3.out A20.out).mono ?_);rintro e w' ⟨rfl,⟨nd,rfl⟩⟩;refine ⟨_,rfl,?_⟩;have p473:0 ≤ (a1:Int):=qd;have q473:a1 < (l0.length:Int):=qd;obtain ⟨ad473,e473,hx473_0,hx473_1⟩:=at_T65 HR0.out a1 p473 q473;obtain rfl:ad465 = ad473:=(by injection e473);replace p473:=eq_true p473;replace q473:=eq_true q473))
              go_ret
              exact ⟨qr,qt⟩
            ·exact absurd H (by simp)
           ·exact absurd H (by simp)
         ·replace c17:=Bool.eq_false_iff.mpr c17
          subst c17
          have H1:(foretellref_truthAt.l0 kj14 a1 l3 a4 0) = some r:=by rw [if_neg (show ¬ (false = true) by decide)] at H;exact H
          clear H
          have H:=H1
          clear H1
          have H':=zA H
          clear H
          go_wp2
          go_loopg [4,13] kj14 (fun kq v4 v13 w'=>∃ (x4_2:Int) (x13_2:Int),v4 = .int .i64 x4_2∧v13 = .int .i64 x13_2∧Aside0 (foretellref_truthAt.l0 kq a1 l3 x4_2 x13_2 = some r)∧Aside0 (kq ≤ kj14)∧Drawn0 w w')
          case atStart=>exact ⟨(a4),(0),qr,qr,H',⟨Nat.le_refl _⟩,qt⟩
          case round =>
           clear H'
           try clear c1
           try clear c2
           try clear p2
           try clear c3
           try clear p4
           try clear q4
           try clear hx4
           try clear c6
           try clear c6b0
           try clear p6
           try clear c7
           try clear c7b0
           try clear c8
           try clear c8b0
           try clear c8b1
           try clear c9
           try clear c9b0
           try clear c10
           try clear c10b0
           try clear c11
           try clear c11b0
           try clear c11b1
           try clear c12
           try clear c12b0
           try clear c12b1
           try clear c13
           try clear c13b0
           try clear c13b1
           try clear c14
           try clear c16
           try clear c16b0
           try clear c16b1
           try clear c17
           try clear c21
           try clear c22
           try clear c23
           try clear c23b0
           try clear c24
           try clear c24b0
           try clear c25
           try clear c25b0
           try clear c25b1
           try clear c26
           try clear c26b0
           try clear c27
           try clear c27b0
           try clear c28
           try clear c28b0
           try clear c28b1
           try clear hx465_0
           try clear hx465_1
           try clear hx466_0
           try clear hx466_1
           try clear hx467_0
           try clear hx472_0
           try clear hx472_1
           try clear hx473_0
           try clear hx473_1
           try clear p2
           try clear p4
           try clear p465
           try clear p466
           try clear p467
           try clear p472
           try clear p473
           try clear p6
           try clear q4
           try clear q465
           try clear q466
           try clear q467
           try clear q472
           try clear q473
           obtain ⟨x4_2,x13_2,rfl,rfl,HA,HK2,⟨m2,rfl⟩⟩:=hrel
           cases gk with
           | zero=>exact absurd HA.out (by simp [foretellref_truthAt.l0])
           | succ k2 =>
            have H:=HA.out
            clear HA
            simp only [foretellref_truthAt.l0] at H
            rcases qj H with ⟨c29b0,H⟩|⟨c29b0,H⟩
            ·rcases qj H with ⟨c30b0,H⟩|⟨c30,H⟩
             ·by_cases c31:(rd l3 x13_2) = a1
              ·rw [if_pos c31] at H
               have c31b0:((rd l3 x13_2) == a1) = true:=beq_iff_eq.mpr c31
               have c31b1:((rd l3 x13_2) != a1) = false:=bne_eq_false_iff_eq.mpr c31
               clear c31
               obtain rfl:=Option.some.inj H
               have p474:0 ≤ (x13_2:Int):=qd
               have q474:x13_2 < (l3.length:Int):=qd
               obtain ⟨ad474,e474,hx474_0⟩:=Kd.at_int HR3.out x13_2 p474 q474
               cases e474
               replace p474:=eq_true p474
               replace q474:=eq_true q474
               go_wp2
               go_ret
               exact ⟨qr,qt⟩
              ·rw [if_neg c31] at H
               have c31b0:((rd l3 x13_2) == a1) = false:=beq_eq_false_iff_ne.mpr c31
               have c31b1:((rd l3 x13_2) != a1) = true:=bne_iff_ne.mpr c31
               have H':=zA H
               clear H
               have p474:0 ≤ (x13_2:Int):=qd
               have q474:x13_2 < (l3.length:Int):=qd
               obtain ⟨ad474,e474,hx474_0⟩:=Kd.at_int HR3.out x13_2 p474 q474
               cases e474
               replace p474:=eq_true p474
               replace q474:=eq_true q474
               go_wp2
               go_roundg k2
               case measure=>have:=HJ14.out;have:=HK2.out;omega
               case rel=>exact ⟨(wrap64 (Int.tdiv x4_2 2)),(wrap64 (x13_2 + 1)),qr,qr,H',⟨qp HJ14 HK2⟩,qt⟩
             ·exact absurd H (by simp)
            ·obtain rfl:=Option.some.inj H
             go_wp2
             go_ret
             exact ⟨qr,qt⟩
  ·exact absurd H (by simp)
 ·exact absurd H (by simp)
end Go.Proofs.YthffpjkkmkjplaaDoor.S
namespace Go.Proofs.YthffpjkkmkjplaaDoor.S
open Go.Proofs.YthffpjkkmkjplaaDoor.Al
open Option renaming bind_eq_some_iff → zb
open Go.Proofs.YthffpjkkmkjplaaDoorW.PrintWords renaming below_step → zH, gate_callee → zU
open Go.Proofs.YthffpjkkmkjplaaDoor.Sq
open Go.RowKit Go.Proofs.YthffpjkkmkjplaaDoorW.PrintWords Go.Proofs.YthffpjkkmkjplaaDoorW.PrintLast Go.Proofs.YthffpjkkmkjplaaDoorW.PrintMore
attribute [local go_sem] max2_int min2_int max_two min_two max_three min_three max_four min_four
set_option linter.unusedVariables false
set_option linter.unusedSimpArgs false
mutual
def foretellref_TruthsOf.l0:Nat → List (S65) → List Bool → Int → List Int → Int → Int → Option (List Bool × Int)
 | 0,_,_,_,_,_,_=>none
 | k + 1,x0,x1,x2,x8,x10,x11=>if x11 < (x8.length:Int) then (foretellref_TruthsOf.l0 k x0 x1 x2 x8 (wrap64 (x10 * 2)) (wrap64 (x11 + 1))) else ((foretellref_In.f x2 0 (wrap64 (x10 - 1))).bind fun t479=>(if t479 = true then (foretellref_TruthsOf.l1 k x0 x1 x2 x8 ([]:List Bool) 0) else (some (([]:List Bool),2))))
def foretellref_TruthsOf.l1:Nat → List (S65) → List Bool → Int → List Int → List Bool → Int → Option (List Bool × Int)
 | 0,_,_,_,_,_,_=>none
 | k + 1,x0,x1,x2,x8,x12,x13=>if x13 < (x0.length:Int) then ((foretellref_truthAt.f k x0 x13 x1 x8 x2).bind fun t480=>(if x12.length < 140737488355328 then (foretellref_TruthsOf.l1 k x0 x1 x2 x8 (x12 ++ [t480]) (wrap64 (x13 + 1))) else (none))) else (some (x12,0))
end
def foretellref_TruthsOf.f (k:Nat) (l0:List (S65)) (l1:List Bool) (a2:Int):Option (List Bool × Int):=(foretellref_AheadOf.f k l0 (l1.length:Int)).bind fun bt475=>(if bt475.2 = 0 then (foretellref_TruthsOf.l0 k l0 l1 a2 bt475.1 1 0) else (some (([]:List Bool),bt475.2)))
theorem foretellref_TruthsOf.mono_l:∀ k,(∀ y0 y1 y2 y3 y4 y5,LeO (foretellref_TruthsOf.l0 k y0 y1 y2 y3 y4 y5) (foretellref_TruthsOf.l0 (k + 1) y0 y1 y2 y3 y4 y5))∧(∀ y0 y1 y2 y3 y4 y5,LeO (foretellref_TruthsOf.l1 k y0 y1 y2 y3 y4 y5) (foretellref_TruthsOf.l1 (k + 1) y0 y1 y2 y3 y4 y5))
 | 0=>⟨fun _ _ _ _ _ _ r h=>by simp [foretellref_TruthsOf.l0] at h,fun _ _ _ _ _ _ r h=>by simp [foretellref_TruthsOf.l1] at h⟩
 | k + 1=>by
  obtain ⟨ih0,ih1⟩:=foretellref_TruthsOf.mono_l k
  refine ⟨?_,?_⟩
  ·intro y0 y1 y2 y3 y4 y5
   unfold foretellref_TruthsOf.l0
   exact qM (And.intro @foretellref_AheadOf.mono @foretellref_truthAt.mono)
  ·intro y0 y1 y2 y3 y4 y5
   unfold foretellref_TruthsOf.l1
   exact qM (And.intro @foretellref_AheadOf.mono @foretellref_truthAt.mono)
theorem foretellref_TruthsOf.mono:∀ a0 a1 a2 k,LeO (foretellref_TruthsOf.f k a0 a1 a2) (foretellref_TruthsOf.f (k + 1) a0 a1 a2):=by
 intro a0 a1 a2 k
 obtain ⟨ih0,ih1⟩:=foretellref_TruthsOf.mono_l k
 unfold foretellref_TruthsOf.f
 exact qM (And.intro @foretellref_AheadOf.mono @foretellref_truthAt.mono)
set_option maxHeartbeats 8000000 in
set_option maxRecDepth 100000 in
theorem foretellref_TruthsOf.calls (k:Nat) (A0:Option Addr) (c0:Nat) (l0:List (S65)) (A1:Option Addr) (c1:Nat) (l1:List Bool) (a2:Int) (r1:List Bool) (r2:Int) (w:World) (hr0:Kd.C k65 w A0 l0.length l0) (hc0:l0.length ≤ c0) (hr1:Kd.C Kd.bool w A1 l1.length l1) (hc1:l1.length ≤ c1) (h:foretellref_TruthsOf.f k l0 l1 a2 = some (r1,r2)) :
  Calls Tryd.prog 39 #[.slice A0 l0.length c0,.slice A1 l1.length c1,.int .i64 a2] w fun e w'=>∃ v0_:Value,e = .returned (.tuple #[v0_,.int .i64 r2])∧Kd.R Kd.bool 4 w' w.heap.size (fun _=>True) v0_ r1∧Below w.heap.size w w':=by
 have HR0:=zA hr0
 have HC0:=zA hc0
 clear hr0 hc0
 have HR1:=zA hr1
 have HC1:=zA hc1
 clear hr1 hc1
 have HB:=zA (Below.refl w.heap.size w)
 have H:((foretellref_AheadOf.f k l0 (l1.length:Int)).bind fun bt475=>(if bt475.2 = 0 then (foretellref_TruthsOf.l0 k l0 l1 a2 bt475.1 1 0) else (some (([]:List Bool),bt475.2)))) = some (r1,r2):=h
 clear h
 replace H:=zb.mp H
 obtain ⟨⟨t475,t476⟩,A40,H⟩:=H
 replace H:(if t476 = 0 then (foretellref_TruthsOf.l0 k l0 l1 a2 t475 1 0) else (some (([]:List Bool),t476))) = some (r1,r2):=H
 have A4:=zA A40
 clear A40
 by_cases c5:t476 = 0
 ·rw [if_pos c5] at H
  have c5b0:(t476 == 0) = true:=beq_iff_eq.mpr c5
  have c5b1:(t476 != 0) = false:=bne_eq_false_iff_eq.mpr c5
  clear c5
  have H':=zA H
  clear H
  go_enter Tryd.func39,Tryd.ntmps39
  go_wp2_with (first|((with_reducible refine zU (f:=61) rfl ?_);refine gL (some 19) Tryd.func61 #[.slice A0 l0.length c0,.int .i64 (l1.length:Int)] ?_;(with_reducible refine (foretellref_AheadOf.calls k _ _ l0 (l1.length:Int) t475 t476 _ (qu HR0.out) HC0.out A4.out).mono ?_);rintro e w6 ⟨v477,rfl,ho0,hb⟩;refine ⟨_,rfl,?_⟩;have HO478:=zA (Kd.R_lower ho0 qs);replace HB:=zA (zH qb hb);clear ho0 hb))
  go_loopg [10,11] k (fun kq v10 v11 w'=>∃ (x10_1:Int) (x11_1:Int),v10 = .int .i64 x10_1∧v11 = .int .i64 x11_1∧Aside0 (foretellref_TruthsOf.l0 kq l0 l1 a2 t475 x10_1 x11_1 = some (r1,r2))∧Aside0 (kq ≤ k)∧Aside0 (Kd.R (Kd.int .i64) 3 w' w.heap.size (fun _=>True) v477 t475)∧Aside0 (Below w.heap.size w w'))
  case atStart=>exact ⟨(1),(0),qr,qr,H',⟨Nat.le_refl _⟩,⟨qR HO478⟩,⟨qb⟩⟩
  case round =>
   clear H'
   try clear c1
   try clear p2
   try clear c3
   try clear c5
   try clear c5b0
   try clear c5b1
   try clear c6
   obtain ⟨x10_1,x11_1,rfl,rfl,HA,HK1,HO_8,HB⟩:=hrel
   cases gk with
   | zero=>exact absurd HA.out (by simp [foretellref_TruthsOf.l0])
   | succ k1 =>
    have H:=HA.out
    clear HA
    simp only [foretellref_TruthsOf.l0] at H
    rcases qj H with ⟨c7b0,H⟩|⟨c7b0,H⟩
    ·have H':=zA H
     clear H
     obtain ⟨Ao8,co8,eo8⟩:=Kd.R_slice HO_8.out
     subst eo8
     go_wp2
     go_roundg k1
     case measure=>have:=HK1.out;omega
     case rel=>exact ⟨(wrap64 (x10_1 * 2)),(wrap64 (x11_1 + 1)),qr,qr,H',⟨qo HK1⟩,⟨qR HO_8⟩,⟨qb⟩⟩
    ·replace H:=zb.mp H
     obtain ⟨t479,A90,H⟩:=H
     replace H:(if t479 = true then (foretellref_TruthsOf.l1 k1 l0 l1 a2 t475 ([]:List Bool) 0) else (some (([]:List Bool),2))) = some (r1,r2):=H
     have A9:=zA A90
     clear A90
     by_cases c10:t479 = true
     ·subst c10
      have H1:(foretellref_TruthsOf.l1 k1 l0 l1 a2 t475 ([]:List Bool) 0) = some (r1,r2):=by rw [if_pos rfl] at H;exact H
      clear H
      have H:=H1
      clear H1
      have H':=zA H
      clear H
      obtain ⟨Ao11,co11,eo11⟩:=Kd.R_slice HO_8.out
      subst eo11
      go_wp2_with (first|((with_reducible refine zU (f:=50) rfl ?_);refine gL (some 36) Tryd.func50 #[.int .i64 a2,.int .i64 0,.int .i64 (wrap64 (x10_1 - 1))] ?_;(with_reducible refine (foretellref_In.calls a2 0 (wrap64 (x10_1 - 1)) true _ A9.out).mono ?_);rintro e w' ⟨rfl,⟨nd,rfl⟩⟩;refine ⟨_,rfl,?_⟩))
      go_loopg [12,13] k1 (fun kq v12 v13 w'=>∃ (x12_2:List Bool) (x13_2:Int),v13 = .int .i64 x13_2∧Aside0 (foretellref_TruthsOf.l1 kq l0 l1 a2 t475 x12_2 x13_2 = some (r1,r2))∧Aside0 (kq ≤ k1)∧Aside0 (Kd.R (Kd.int .i64) 3 w' w.heap.size (fun _=>True) (.slice Ao11 t475.length co11) t475)∧Aside0 (Kd.R Kd.bool 4 w' w.heap.size (fun _=>True) v12 x12_2)∧Aside0 (Below w.heap.size w w'))
      case atStart=>exact ⟨(([]:List Bool)),(0),qr,H',⟨Nat.le_refl _⟩,⟨qR HO_8⟩,⟨ql⟩,⟨qb⟩⟩
      case round =>
       clear H'
       try clear c1
       try clear p2
       try clear c3
       try clear c5
       try clear c5b0
       try clear c5b1
       try clear c6
       try clear p6
       try clear c7
       try clear c7b0
       try clear c10
       try clear p2
       obtain ⟨x12_2,x13_2,rfl,HA,HK2,HO_8,HO_12,HB⟩:=hrel
       cases gk with
       | zero=>exact absurd HA.out (by simp [foretellref_TruthsOf.l1])
       | succ k2 =>
        have H:=HA.out
        clear HA
        simp only [foretellref_TruthsOf.l1] at H
        rcases qj H with ⟨c12b0,H⟩|⟨c12b0,H⟩
        ·replace H:=zb.mp H
         obtain ⟨t480,A130,H⟩:=H
         replace H:(if x12_2.length < 140737488355328 then (foretellref_TruthsOf.l1 k2 l0 l1 a2 t475 (x12_2 ++ [t480]) (wrap64 (x13_2 + 1))) else (none)) = some (r1,r2):=H
         have A13:=zA A130
         clear A130
         by_cases c14:x12_2.length < 140737488355328
         ·rw [if_pos c14] at H
          have LMc14:=zA c14
          clear c14
          obtain ⟨y481,hy481⟩:∃ y_:List Bool,y_ = (x12_2 ++ [t480]):=⟨_,rfl⟩
          replace H:(foretellref_TruthsOf.l1 k2 l0 l1 a2 t475 y481 (wrap64 (x13_2 + 1))) = some (r1,r2):=by first|(rw [hy481];with_reducible exact H)|(have H2_:=(Option.bind_some _ _).symm.trans H;rw [hy481];with_reducible exact H2_)|(have H2_:=(Option.bind_some _ _).symm.trans H;with_reducible exact H2_)|with_reducible exact H|(rw [hy481];exact H)|exact H
          have Ny481:=zA hy481
          clear hy481
          have H':=zA H
          clear H
          go_wp2_with (first|((with_reducible refine zU (f:=62) rfl ?_);refine gL (some 49) Tryd.func62 #[.slice A0 l0.length c0,.int .i64 x13_2,.slice A1 l1.length c1,.slice Ao11 t475.length co11,.int .i64 a2] ?_;(with_reducible refine (foretellref_truthAt.calls k2 _ _ l0 x13_2 _ _ l1 _ _ t475 a2 t480 _ (qc HR0) HC0.out (qc HR1) HC1.out (qu (Kd.R_reads' HO_8.out).2.2) ((Kd.R_reads' HO_8.out).2.1) A13.out).mono ?_);rintro e w' ⟨rfl,⟨nd,rfl⟩⟩;refine ⟨_,rfl,?_⟩)|((with_reducible refine gate_builtin (b:=.append) (xs:=#[.tmp 50,.tmp 52]) rfl ?_);at_builtin;refine Kd.R_append Kd.bool (w0:=w) w.heap.size rfl (.tmp 50) (.tmp 52) 27 4 (.bool false) 1 rfl Tryd.underlying27 info4 rfl (by decide) (by omega) u12 x12_2 t480 [.bool t480] (fun _=>True) (fun _=>False) rfl rfl rfl (fun _ hk=>hk.elim) (fun _ _=>trivial) (qR HO_12) qb qs (qo LMc14) ?_;intro v482 w15 ho hb hg hat;rw [← Ny481.out] at ho;replace HO_8:=zA (Kd.R_over' (qR HO_8) (Kd.R_typed (qR HO_12)) (by decide) hg);replace HB:=zA (hb);have HO483:=zA (ho);clear HO_12;clear ho hb hg hat))
          go_roundg k2
          case measure=>have:=HK1.out;have:=HK2.out;omega
          case rel=>exact ⟨(y481),(wrap64 (x13_2 + 1)),qr,H',⟨qp HK1 HK2⟩,⟨qR HO_8⟩,⟨qR HO483⟩,⟨qb⟩⟩
         ·rw [if_neg c14] at H
          exact absurd H (by simp)
        ·simp only [Option.some.injEq,Prod.mk.injEq] at H
         obtain ⟨rfl,rfl⟩:=H
         go_wp2
         go_ret2
         exact ⟨_,qe,qR HO_12,qb⟩
     ·replace c10:=Bool.eq_false_iff.mpr c10
      subst c10
      have H1:(some (([]:List Bool),2)) = some (r1,r2):=by rw [if_neg (show ¬ (false = true) by decide)] at H;exact H
      clear H
      have H:=H1
      clear H1
      simp only [Option.some.injEq,Prod.mk.injEq] at H
      obtain ⟨rfl,rfl⟩:=H
      obtain ⟨Ao16,co16,eo16⟩:=Kd.R_slice HO_8.out
      subst eo16
      go_wp2_with (first|((with_reducible refine zU (f:=50) rfl ?_);refine gL (some 36) Tryd.func50 #[.int .i64 a2,.int .i64 0,.int .i64 (wrap64 (x10_1 - 1))] ?_;(with_reducible refine (foretellref_In.calls a2 0 (wrap64 (x10_1 - 1)) false _ A9.out).mono ?_);rintro e w' ⟨rfl,⟨nd,rfl⟩⟩;refine ⟨_,rfl,?_⟩))
      go_ret2
      exact ⟨_,qe,ql,qb⟩
 ·rw [if_neg c5] at H
  have c5b0:(t476 == 0) = false:=beq_eq_false_iff_ne.mpr c5
  have c5b1:(t476 != 0) = true:=bne_iff_ne.mpr c5
  simp only [Option.some.injEq,Prod.mk.injEq] at H
  obtain ⟨rfl,rfl⟩:=H
  go_enter Tryd.func39,Tryd.ntmps39
  go_wp2_with (first|((with_reducible refine zU (f:=61) rfl ?_);refine gL (some 19) Tryd.func61 #[.slice A0 l0.length c0,.int .i64 (l1.length:Int)] ?_;(with_reducible refine (foretellref_AheadOf.calls k _ _ l0 (l1.length:Int) t475 t476 _ (qu HR0.out) HC0.out A4.out).mono ?_);rintro e w17 ⟨v477,rfl,ho0,hb⟩;refine ⟨_,rfl,?_⟩;have HO478:=zA (Kd.R_lower ho0 qs);replace HB:=zA (zH qb hb);clear ho0 hb))
  go_ret2
  exact ⟨_,qe,ql,qb⟩
end Go.Proofs.YthffpjkkmkjplaaDoor.S
namespace Go.Proofs.YthffpjkkmkjplaaDoor.S
open Go.Proofs.YthffpjkkmkjplaaDoor.Al
open Option renaming bind_eq_some_iff → zb
open Go.Proofs.YthffpjkkmkjplaaDoorW.PrintWords renaming below_step → zH, blk_frozen → zJ, gate_callee → zU, gate_dst → zV
open Go.Proofs.YthffpjkkmkjplaaDoor.Sq
open Go.RowKit Go.Proofs.YthffpjkkmkjplaaDoorW.PrintWords Go.Proofs.YthffpjkkmkjplaaDoorW.PrintLast Go.Proofs.YthffpjkkmkjplaaDoorW.PrintMore
attribute [local go_sem] max2_int min2_int max_two min_two max_three min_three max_four min_four
set_option linter.unusedVariables false
set_option linter.unusedSimpArgs false
def foretellref_BeginOf.l0:Nat → Int → List Bool → Int → List (S73) → Int → List (S86) → List (S93) → List (List (S65)) → List (S65) → Option ((List (S73)) × Int)
 | 0,_,_,_,_,_,_,_,_,_=>none
 | k + 1,x5,x7,x9,x10,x11,x485000,x485001,x485002,x485003=>if x11 < x9 then ((foretellref_TruthsOf.f k x485003 x7 x11).bind fun bt493=>(if 0 < (bt493.1.length:Int) then (if rdOf false bt493.1 0 = true then (foretellref_BeginOf.l0 k x5 x7 x9 x10 (wrap64 (x11 + 1)) x485000 x485001 x485002 x485003) else (if x10.length < 8796093022208 then (foretellref_BeginOf.l0 k x5 x7 x9 (x10 ++ [(⟨x5,x11⟩:S73)]) (wrap64 (x11 + 1)) x485000 x485001 x485002 x485003) else (none))) else (none))) else (some (x10,0))
def foretellref_BeginOf.f (k:Nat) (l0_0:List (S86)) (l0_1:List (S93)) (l0_2:List (List (S65))) (l0_3:List (S65)):Option ((List (S73)) × Int):=(foretellref_TaskFault.f k l0_0 l0_1 l0_2 l0_3).bind fun t485=>(if t485 = 0 then ((foretellref_FirstCode.f k l0_0 l0_1).bind fun bt486=>((foretellref_LetterOf.f k l0_0 l0_1 l0_2 bt486.1).bind fun bt488=>((foretellref_manyClaims.f k l0_0 l0_1 l0_2 l0_3).bind fun t492=>(foretellref_BeginOf.l0 k bt486.1 bt488.1 t492 ([]:List (S73)) 0 l0_0 l0_1 l0_2 l0_3)))) else (some (([]:List (S73)),t485)))
theorem foretellref_BeginOf.mono_l:∀ k,(∀ y0 y1 y2 y3 y4 y5 y6 y7 y8,LeO (foretellref_BeginOf.l0 k y0 y1 y2 y3 y4 y5 y6 y7 y8) (foretellref_BeginOf.l0 (k + 1) y0 y1 y2 y3 y4 y5 y6 y7 y8))
 | 0=>fun _ _ _ _ _ _ _ _ _ r h=>by simp [foretellref_BeginOf.l0] at h
 | k + 1=>by
  have ih0:=foretellref_BeginOf.mono_l k
  ·intro y0 y1 y2 y3 y4 y5 y6 y7 y8
   unfold foretellref_BeginOf.l0
   exact qM (And.intro @foretellref_FirstCode.mono (And.intro @foretellref_LetterOf.mono (And.intro @foretellref_TaskFault.mono (And.intro @foretellref_TruthsOf.mono @foretellref_manyClaims.mono))))
theorem foretellref_BeginOf.mono:∀ a0 a1 a2 a3 k,LeO (foretellref_BeginOf.f k a0 a1 a2 a3) (foretellref_BeginOf.f (k + 1) a0 a1 a2 a3):=by
 intro a0 a1 a2 a3 k
 have ih0:=foretellref_BeginOf.mono_l k
 unfold foretellref_BeginOf.f
 exact qM (And.intro @foretellref_FirstCode.mono (And.intro @foretellref_LetterOf.mono (And.intro @foretellref_TaskFault.mono (And.intro @foretellref_TruthsOf.mono @foretellref_manyClaims.mono))))
set_option maxHeartbeats 8000000 in
set_option maxRecDepth 100000 in
theorem foretellref_BeginOf.calls (k:Nat) (A0_0:Option Addr) (c0_0:Nat) (l0_0:List (S86)) (A0_1:Option Addr) (c0_1:Nat) (l0_1:List (S93)) (A0_2:Option Addr) (c0_2:Nat) (l0_2:List (List (S65))) (A0_3:Option Addr) (c0_3:Nat) (l0_3:List (S65)) (r1:List (S73)) (r2:Int) (w:World) (hr0_0:Kd.C k86 w A0_0 l0_0.length l0_0) (hc0_0:l0_0.length ≤ c0_0) (hr0_1:Kd.C k93 w A0_1 l0_1.length l0_1) (hc0_1:l0_1.length ≤ c0_1) (hr0_2:Kd.C (Kd.slice 65 k65) w A0_2 l0_2.length l0_2) (hc0_2:l0_2.length ≤ c0_2) (hr0_3:Kd.C k65 w A0_3 l0_3.length l0_3) (hc0_3:l0_3.length ≤ c0_3) (h:foretellref_BeginOf.f k l0_0 l0_1 l0_2 l0_3 = some (r1,r2)) :
  Calls Tryd.prog 20 #[.agg #[.slice A0_0 l0_0.length c0_0,.slice A0_1 l0_1.length c0_1,.slice A0_2 l0_2.length c0_2,.slice A0_3 l0_3.length c0_3]] w fun e w'=>∃ v0_:Value,e = .returned (.tuple #[v0_,.int .i64 r2])∧Kd.R k73 73 w' w.heap.size (fun _=>True) v0_ r1∧Below w.heap.size w w':=by
 have hu47:=Tryd.underlying47
 have hu44:=Tryd.underlying44
 have hu73:=Tryd.underlying73
 have HR0_0:=zA hr0_0
 have HC0_0:=zA hc0_0
 clear hr0_0 hc0_0
 have HR0_1:=zA hr0_1
 have HC0_1:=zA hc0_1
 clear hr0_1 hc0_1
 have HR0_2:=zA hr0_2
 have HC0_2:=zA hc0_2
 clear hr0_2 hc0_2
 have HR0_3:=zA hr0_3
 have HC0_3:=zA hc0_3
 clear hr0_3 hc0_3
 have HB:=zA (Below.refl w.heap.size w)
 have H:((foretellref_TaskFault.f k l0_0 l0_1 l0_2 l0_3).bind fun t485=>(if t485 = 0 then ((foretellref_FirstCode.f k l0_0 l0_1).bind fun bt486=>((foretellref_LetterOf.f k l0_0 l0_1 l0_2 bt486.1).bind fun bt488=>((foretellref_manyClaims.f k l0_0 l0_1 l0_2 l0_3).bind fun t492=>(foretellref_BeginOf.l0 k bt486.1 bt488.1 t492 ([]:List (S73)) 0 l0_0 l0_1 l0_2 l0_3)))) else (some (([]:List (S73)),t485)))) = some (r1,r2):=h
 clear h
 replace H:=zb.mp H
 obtain ⟨t485,A20,H⟩:=H
 replace H:(if t485 = 0 then ((foretellref_FirstCode.f k l0_0 l0_1).bind fun bt486=>((foretellref_LetterOf.f k l0_0 l0_1 l0_2 bt486.1).bind fun bt488=>((foretellref_manyClaims.f k l0_0 l0_1 l0_2 l0_3).bind fun t492=>(foretellref_BeginOf.l0 k bt486.1 bt488.1 t492 ([]:List (S73)) 0 l0_0 l0_1 l0_2 l0_3)))) else (some (([]:List (S73)),t485))) = some (r1,r2):=H
 have A2:=zA A20
 clear A20
 by_cases c3:t485 = 0
 ·rw [if_pos c3] at H
  have c3b0:(t485 == 0) = true:=beq_iff_eq.mpr c3
  have c3b1:(t485 != 0) = false:=bne_eq_false_iff_eq.mpr c3
  clear c3
  replace H:=zb.mp H
  obtain ⟨⟨t486,t487⟩,A40,H⟩:=H
  replace H:((foretellref_LetterOf.f k l0_0 l0_1 l0_2 t486).bind fun bt488=>((foretellref_manyClaims.f k l0_0 l0_1 l0_2 l0_3).bind fun t492=>(foretellref_BeginOf.l0 k t486 bt488.1 t492 ([]:List (S73)) 0 l0_0 l0_1 l0_2 l0_3))) = some (r1,r2):=H
  have A4:=zA A40
  clear A40
  replace H:=zb.mp H
  obtain ⟨⟨t488,t491⟩,A50,H⟩:=H
  replace H:((foretellref_manyClaims.f k l0_0 l0_1 l0_2 l0_3).bind fun t492=>(foretellref_BeginOf.l0 k t486 t488 t492 ([]:List (S73)) 0 l0_0 l0_1 l0_2 l0_3)) = some (r1,r2):=H
  have A5:=zA A50
  clear A50
  replace H:=zb.mp H
  obtain ⟨t492,A60,H⟩:=H
  replace H:(foretellref_BeginOf.l0 k t486 t488 t492 ([]:List (S73)) 0 l0_0 l0_1 l0_2 l0_3) = some (r1,r2):=H
  have A6:=zA A60
  clear A60
  have H':=zA H
  clear H
  go_enter Tryd.func20,Tryd.ntmps20
  go_wp2_with (first|((with_reducible refine zV (N:=1) rfl ?_);refine bq 1 (cs:=#[.slice A0_0 l0_0.length c0_0,.slice A0_1 l0_1.length c0_1,.slice A0_2 l0_2.length c0_2,.slice A0_3 l0_3.length c0_3]) (t:=47) ?_;intro gb484 hg w7 hbox hb;have BK484:=zA (hbox);have GW484:=zA (qg hg);have GE484:=zA (qg hg);replace HB:=zA (zH qb hb);clear hb hbox hg;have hcz8_0:=qx BK484 0;have hcz8_1:=qx BK484 1;have hcz8_2:=qx BK484 2;have hcz8_3:=qx BK484 3;have hfz8_0:=zJ BK484.out 0;have hfz8_1:=zJ BK484.out 1;have hfz8_2:=zJ BK484.out 2;have hfz8_3:=zJ BK484.out 3)|((with_reducible refine zU (f:=35) rfl ?_);refine gL (some 15) Tryd.func35 #[.agg #[.slice A0_0 l0_0.length c0_0,.slice A0_1 l0_1.length c0_1,.slice A0_2 l0_2.length c0_2,.slice A0_3 l0_3.length c0_3]] ?_;(with_reducible refine (foretellref_TaskFault.calls k _ _ l0_0 _ _ l0_1 _ _ l0_2 _ _ l0_3 t485 _ (qc HR0_0) HC0_0.out (qc HR0_1) HC0_1.out (qc HR0_2) HC0_2.out (qc HR0_3) HC0_3.out A2.out).mono ?_);rintro e w9 ⟨rfl,hb⟩;refine ⟨_,rfl,?_⟩;replace BK484:=qK BK484 hb;replace HB:=zA (zH qb hb);clear hb;have hcz10_0:=qx BK484 0;have hcz10_1:=qx BK484 1;have hcz10_2:=qx BK484 2;have hcz10_3:=qx BK484 3;have hfz10_0:=zJ BK484.out 0;have hfz10_1:=zJ BK484.out 1;have hfz10_2:=zJ BK484.out 2;have hfz10_3:=zJ BK484.out 3)|((with_reducible refine zU (f:=36) rfl ?_);refine gL (some 22) Tryd.func36 #[.agg #[.slice A0_0 l0_0.length c0_0,.slice A0_1 l0_1.length c0_1]] ?_;(with_reducible refine (foretellref_FirstCode.calls k _ _ l0_0 _ _ l0_1 t486 t487 _ (qc HR0_0) HC0_0.out (qc HR0_1) HC0_1.out A4.out).mono ?_);rintro e w11 ⟨rfl,hb⟩;refine ⟨_,rfl,?_⟩;replace BK484:=qK BK484 hb;replace HB:=zA (zH qb hb);clear hb;have hcz12_0:=qx BK484 0;have hcz12_1:=qx BK484 1;have hcz12_2:=qx BK484 2;have hcz12_3:=qx BK484 3;have hfz12_0:=zJ BK484.out 0;have hfz12_1:=zJ BK484.out 1;have hfz12_2:=zJ BK484.out 2;have hfz12_3:=zJ BK484.out 3)|((with_reducible refine zU (f:=37) rfl ?_);refine gL (some 31) Tryd.func37 #[.agg #[.slice A0_0 l0_0.length c0_0,.slice A0_1 l0_1.length c0_1],.slice A0_2 l0_2.length c0_2,.int .i64 t486] ?_;(with_reducible refine (foretellref_LetterOf.calls k _ _ l0_0 _ _ l0_1 _ _ l0_2 t486 t488 t491 _ (qc HR0_0) HC0_0.out (qc HR0_1) HC0_1.out (qc HR0_2) HC0_2.out A5.out).mono ?_);rintro e w13 ⟨v489,rfl,ho0,hb⟩;refine ⟨_,rfl,?_⟩;have HO490:=zA (Kd.R_lower ho0 qs);replace BK484:=qK BK484 hb;replace HB:=zA (zH qb hb);clear ho0 hb;have hcz14_0:=qx BK484 0;have hcz14_1:=qx BK484 1;have hcz14_2:=qx BK484 2;have hcz14_3:=qx BK484 3;have hfz14_0:=zJ BK484.out 0;have hfz14_1:=zJ BK484.out 1;have hfz14_2:=zJ BK484.out 2;have hfz14_3:=zJ BK484.out 3)|((with_reducible refine zU (f:=38) rfl ?_);refine gL (some 35) Tryd.func38 #[.agg #[.slice A0_0 l0_0.length c0_0,.slice A0_1 l0_1.length c0_1,.slice A0_2 l0_2.length c0_2,.slice A0_3 l0_3.length c0_3]] ?_;(with_reducible refine (foretellref_manyClaims.calls k _ _ l0_0 _ _ l0_1 _ _ l0_2 _ _ l0_3 t492 _ (qc HR0_0) HC0_0.out (qc HR0_1) HC0_1.out (qc HR0_2) HC0_2.out (qc HR0_3) HC0_3.out A6.out).mono ?_);rintro e w15 ⟨rfl,hb⟩;refine ⟨_,rfl,?_⟩;replace HO490:=zA (Kd.R_below (qR HO490) hb);replace BK484:=qK BK484 hb;replace HB:=zA (zH qb hb);clear hb))
  go_loopg [10,11] k (fun kq v10 v11 w'=>∃ (x10_1:List (S73)) (x11_1:Int),v11 = .int .i64 x11_1∧Aside0 (foretellref_BeginOf.l0 kq t486 t488 t492 x10_1 x11_1 l0_0 l0_1 l0_2 l0_3 = some (r1,r2))∧Aside0 (kq ≤ k)∧Aside0 (Kd.R Kd.bool 4 w' w.heap.size (fun _=>True) v489 t488)∧Aside0 (Kd.R k73 73 w' w.heap.size (fun _=>True) v10 x10_1)∧Aside0 (w'.heap[gb484]? = some (.cells #[(.slice A0_0 l0_0.length c0_0),(.slice A0_1 l0_1.length c0_1),(.slice A0_2 l0_2.length c0_2),(.slice A0_3 l0_3.length c0_3)] 47 (0,0)))∧Aside0 (Below w.heap.size w w'))
  case atStart=>exact ⟨(([]:List (S73))),(0),qr,H',⟨Nat.le_refl _⟩,⟨qR HO490⟩,⟨ql⟩,⟨qk BK484⟩,⟨qb⟩⟩
  case round =>
   clear H'
   try clear c2
   try clear p2
   try clear c3
   try clear c3b0
   try clear c3b1
   try clear hcz10_0
   try clear hcz10_1
   try clear hcz10_2
   try clear hcz10_3
   try clear hcz12_0
   try clear hcz12_1
   try clear hcz12_2
   try clear hcz12_3
   try clear hcz14_0
   try clear hcz14_1
   try clear hcz14_2
   try clear hcz14_3
   try clear hcz8_0
   try clear hcz8_1
   try clear hcz8_2
   try clear hcz8_3
   try clear hfz10_0
   try clear hfz10_1
   try clear hfz10_2
   try clear hfz10_3
   try clear hfz12_0
   try clear hfz12_1
   try clear hfz12_2
   try clear hfz12_3
   try clear hfz14_0
   try clear hfz14_1
   try clear hfz14_2
   try clear hfz14_3
   try clear hfz8_0
   try clear hfz8_1
   try clear hfz8_2
   try clear hfz8_3
   obtain ⟨x10_1,x11_1,rfl,HA,HK1,HO_7,HO_10,BK484,HB⟩:=hrel
   cases gk with
   | zero=>exact absurd HA.out (by simp [foretellref_BeginOf.l0])
   | succ k1 =>
    have H:=HA.out
    clear HA
    simp only [foretellref_BeginOf.l0] at H
    rcases qj H with ⟨c16b0,H⟩|⟨c16b0,H⟩
    ·replace H:=zb.mp H
     obtain ⟨⟨t493,t494⟩,A170,H⟩:=H
     replace H:(if 0 < (t493.length:Int) then (if rdOf false t493 0 = true then (foretellref_BeginOf.l0 k1 t486 t488 t492 x10_1 (wrap64 (x11_1 + 1)) l0_0 l0_1 l0_2 l0_3) else (if x10_1.length < 8796093022208 then (foretellref_BeginOf.l0 k1 t486 t488 t492 (x10_1 ++ [(⟨t486,x11_1⟩:S73)]) (wrap64 (x11_1 + 1)) l0_0 l0_1 l0_2 l0_3) else (none))) else (none)) = some (r1,r2):=H
     have A17:=zA A170
     clear A170
     by_cases c18:0 < (t493.length:Int)
     ·rw [if_pos c18] at H
      have c18b0:decide (0 < (t493.length:Int)) = true:=zQ c18
      have c18b1:decide (0 < t493.length) = true:=zQ (by omega)
      clear c18
      obtain ⟨bq19,hbq19⟩:∃ b_:Bool,b_ = (rdOf false t493 0):=⟨_,rfl⟩
      replace H:(if bq19 = true then (foretellref_BeginOf.l0 k1 t486 t488 t492 x10_1 (wrap64 (x11_1 + 1)) l0_0 l0_1 l0_2 l0_3) else (if x10_1.length < 8796093022208 then (foretellref_BeginOf.l0 k1 t486 t488 t492 (x10_1 ++ [(⟨t486,x11_1⟩:S73)]) (wrap64 (x11_1 + 1)) l0_0 l0_1 l0_2 l0_3) else (none))) = some (r1,r2):=by rw [← hbq19] at H;exact H
      have Nbq19:=zA hbq19
      clear hbq19
      by_cases c20:bq19 = true
      ·subst c20
       have H1:(foretellref_BeginOf.l0 k1 t486 t488 t492 x10_1 (wrap64 (x11_1 + 1)) l0_0 l0_1 l0_2 l0_3) = some (r1,r2):=by rw [if_pos rfl] at H;exact H
       clear H
       have H:=H1
       clear H1
       have H':=zA H
       clear H
       have hcz21_0:=qx BK484 0
       have hcz21_1:=qx BK484 1
       have hcz21_2:=qx BK484 2
       have hcz21_3:=qx BK484 3
       have hfz21_0:=zJ BK484.out 0
       have hfz21_1:=zJ BK484.out 1
       have hfz21_2:=zJ BK484.out 2
       have hfz21_3:=zJ BK484.out 3
       obtain ⟨Ao22,co22,eo22⟩:=Kd.R_slice HO_7.out
       subst eo22
       go_wp2_with (first|((with_reducible refine zU (f:=39) rfl ?_);refine gL (some 46) Tryd.func39 #[.slice A0_3 l0_3.length c0_3,.slice Ao22 t488.length co22,.int .i64 x11_1] ?_;(with_reducible refine (foretellref_TruthsOf.calls k1 _ _ l0_3 _ _ t488 x11_1 t493 t494 _ (qc HR0_3) HC0_3.out (qu (Kd.R_reads' HO_7.out).2.2) ((Kd.R_reads' HO_7.out).2.1) A17.out).mono ?_);rintro e w23 ⟨v495,rfl,ho0,hb⟩;refine ⟨_,rfl,?_⟩;replace HO_10:=zA (Kd.R_below (qR HO_10) hb);have HO496:=zA (Kd.R_lower (Kd.R_new' ho0 (Kd.R_lt (qR HO_7))) qs);replace HO_7:=zA (Kd.R_elder' (qR HO_7) (Kd.R_base ho0) hb);replace BK484:=qK BK484 hb;replace HB:=zA (zH qb hb);clear ho0 hb;obtain ⟨Ao24,co24,eo24⟩:=Kd.R_slice HO496.out;subst eo24;have p497:0 ≤ (0:Int):=(by omega);have q497:0 < (t493.length:Int):=qd;obtain ⟨ad497,e497,hx497_0⟩:=Kd.at_bool (Kd.R_reads' HO496.out).2.2 0 p497 q497;(try rw [← Nbq19.out] at hx497_0);cases e497;have qi497:(0 < t493.length) = True:=eq_true (by omega);(try rw [show ((0:Int)).toNat = 0 from rfl] at hx497_0);(try rw [Addr.add_zero'] at hx497_0);replace p497:=eq_true p497;replace q497:=eq_true q497))
       go_roundg k1
       case measure=>have:=HK1.out;omega
       case rel=>exact ⟨(x10_1),(wrap64 (x11_1 + 1)),qr,H',⟨qo HK1⟩,⟨by (with_reducible repeat (first|apply Kd.R_alloc|apply Kd.R_drewN|apply Kd.R_drew));exact Kd.R_mono HO_7.out (fun _ hk=>trivial)⟩,⟨qR HO_10⟩,⟨qk BK484⟩,⟨qb⟩⟩
      ·replace c20:=Bool.eq_false_iff.mpr c20
       subst c20
       have H1:(if x10_1.length < 8796093022208 then (foretellref_BeginOf.l0 k1 t486 t488 t492 (x10_1 ++ [(⟨t486,x11_1⟩:S73)]) (wrap64 (x11_1 + 1)) l0_0 l0_1 l0_2 l0_3) else (none)) = some (r1,r2):=by rw [if_neg (show ¬ (false = true) by decide)] at H;exact H
       clear H
       have H:=H1
       clear H1
       by_cases c25:x10_1.length < 8796093022208
       ·rw [if_pos c25] at H
        have LMc25:=zA c25
        clear c25
        obtain ⟨y498,hy498⟩:∃ y_:List (S73),y_ = (x10_1 ++ [(⟨t486,x11_1⟩:S73)]):=⟨_,rfl⟩
        replace H:(foretellref_BeginOf.l0 k1 t486 t488 t492 y498 (wrap64 (x11_1 + 1)) l0_0 l0_1 l0_2 l0_3) = some (r1,r2):=by first|(rw [hy498];with_reducible exact H)|(have H2_:=(Option.bind_some _ _).symm.trans H;rw [hy498];with_reducible exact H2_)|(have H2_:=(Option.bind_some _ _).symm.trans H;with_reducible exact H2_)|with_reducible exact H|(rw [hy498];exact H)|exact H
        have Ny498:=zA hy498
        clear hy498
        have H':=zA H
        clear H
        have hcz26_0:=qx BK484 0
        have hcz26_1:=qx BK484 1
        have hcz26_2:=qx BK484 2
        have hcz26_3:=qx BK484 3
        have hfz26_0:=zJ BK484.out 0
        have hfz26_1:=zJ BK484.out 1
        have hfz26_2:=zJ BK484.out 2
        have hfz26_3:=zJ BK484.out 3
        obtain ⟨Ao27,co27,eo27⟩:=Kd.R_slice HO_7.out
        subst eo27
        go_wp2_with (first|((with_reducible refine zU (f:=39) rfl ?_);refine gL (some 46) Tryd.func39 #[.slice A0_3 l0_3.length c0_3,.slice Ao27 t488.length co27,.int .i64 x11_1] ?_;(with_reducible refine (foretellref_TruthsOf.calls k1 _ _ l0_3 _ _ t488 x11_1 t493 t494 _ (qc HR0_3) HC0_3.out (qu (Kd.R_reads' HO_7.out).2.2) ((Kd.R_reads' HO_7.out).2.1) A17.out).mono ?_);rintro e w28 ⟨v495,rfl,ho0,hb⟩;refine ⟨_,rfl,?_⟩;replace HO_10:=zA (Kd.R_below (qR HO_10) hb);have HO496:=zA (Kd.R_lower (Kd.R_new' ho0 (Kd.R_lt (qR HO_7))) qs);replace HO_7:=zA (Kd.R_elder' (qR HO_7) (Kd.R_base ho0) hb);replace BK484:=qK BK484 hb;replace HB:=zA (zH qb hb);clear ho0 hb;obtain ⟨Ao29,co29,eo29⟩:=Kd.R_slice HO496.out;subst eo29;have p497:0 ≤ (0:Int):=(by omega);have q497:0 < (t493.length:Int):=qd;obtain ⟨ad497,e497,hx497_0⟩:=Kd.at_bool (Kd.R_reads' HO496.out).2.2 0 p497 q497;(try rw [← Nbq19.out] at hx497_0);cases e497;have qi497:(0 < t493.length) = True:=eq_true (by omega);(try rw [show ((0:Int)).toNat = 0 from rfl] at hx497_0);(try rw [Addr.add_zero'] at hx497_0);replace p497:=eq_true p497;replace q497:=eq_true q497)|((with_reducible refine gate_builtin (b:=.append) (xs:=#[.tmp 53,.tmp 57]) rfl ?_);at_builtin;refine Kd.R_append k73 (w0:=w) w.heap.size rfl (.tmp 53) (.tmp 57) 48 73 (.agg #[(.int .i64 0),(.int .i64 0)]) 16 rfl Tryd.underlying48 info73 rfl (by decide) (by omega) u10 x10_1 (⟨t486,x11_1⟩:S73) [.int .i64 t486,.int .i64 x11_1] (fun _=>True) (fun _=>False) rfl rfl (k73_mkM _ _ _ (⟨t486,x11_1⟩:S73)) (fun _ hk=>hk.elim) (fun _ _=>trivial) (qR HO_10) qb qs (qo LMc25) ?_;intro v499 w30 ho hb hg hat;rw [← Ny498.out] at ho;replace HO_7:=zA (Kd.R_over' (qR HO_7) (Kd.R_typed (qR HO_10)) (by decide) hg);replace BK484:=zA (blk_grown (g:=gb484) (o:=.cells #[.slice A0_0 l0_0.length c0_0,.slice A0_1 l0_1.length c0_1,.slice A0_2 l0_2.length c0_2,.slice A0_3 l0_3.length c0_3] 47 (0,0)) (qk BK484) hg (Kd.R_ne HO_10.out BK484.out (by decide)));replace HO496:=zA (Kd.R_over' (qR HO496) (Kd.R_typed (qR HO_10)) (by decide) hg);replace HB:=zA (hb);have HO500:=zA (ho);clear HO_10;clear ho hb hg hat))
        go_roundg k1
        case measure=>have:=HK1.out;omega
        case rel=>exact ⟨(y498),(wrap64 (x11_1 + 1)),qr,H',⟨qo HK1⟩,⟨by (with_reducible repeat (first|apply Kd.R_alloc|apply Kd.R_drewN|apply Kd.R_drew));exact Kd.R_mono HO_7.out (fun _ hk=>trivial)⟩,⟨qR HO500⟩,⟨qk BK484⟩,⟨qb⟩⟩
       ·rw [if_neg c25] at H
        exact absurd H (by simp)
     ·rw [if_neg c18] at H
      exact absurd H (by simp)
    ·simp only [Option.some.injEq,Prod.mk.injEq] at H
     obtain ⟨rfl,rfl⟩:=H
     go_wp2
     go_ret2
     exact ⟨_,qe,qR HO_10,qb⟩
 ·rw [if_neg c3] at H
  have c3b0:(t485 == 0) = false:=beq_eq_false_iff_ne.mpr c3
  have c3b1:(t485 != 0) = true:=bne_iff_ne.mpr c3
  simp only [Option.some.injEq,Prod.mk.injEq] at H
  obtain ⟨rfl,rfl⟩:=H
  go_enter Tryd.func20,Tryd.ntmps20
  go_wp2_with (first|((with_reducible refine zV (N:=1) rfl ?_);refine bq 1 (cs:=#[.slice A0_0 l0_0.length c0_0,.slice A0_1 l0_1.length c0_1,.slice A0_2 l0_2.length c0_2,.slice A0_3 l0_3.length c0_3]) (t:=47) ?_;intro gb484 hg w31 hbox hb;have BK484:=zA (hbox);have GW484:=zA (qg hg);have GE484:=zA (qg hg);replace HB:=zA (zH qb hb);clear hb hbox hg;have hcz32_0:=qx BK484 0;have hcz32_1:=qx BK484 1;have hcz32_2:=qx BK484 2;have hcz32_3:=qx BK484 3;have hfz32_0:=zJ BK484.out 0;have hfz32_1:=zJ BK484.out 1;have hfz32_2:=zJ BK484.out 2;have hfz32_3:=zJ BK484.out 3)|((with_reducible refine zU (f:=35) rfl ?_);refine gL (some 15) Tryd.func35 #[.agg #[.slice A0_0 l0_0.length c0_0,.slice A0_1 l0_1.length c0_1,.slice A0_2 l0_2.length c0_2,.slice A0_3 l0_3.length c0_3]] ?_;(with_reducible refine (foretellref_TaskFault.calls k _ _ l0_0 _ _ l0_1 _ _ l0_2 _ _ l0_3 t485 _ (qc HR0_0) HC0_0.out (qc HR0_1) HC0_1.out (qc HR0_2) HC0_2.out (qc HR0_3) HC0_3.out A2.out).mono ?_);rintro e w33 ⟨rfl,hb⟩;refine ⟨_,rfl,?_⟩;replace BK484:=qK BK484 hb;replace HB:=zA (zH qb hb);clear hb))
  go_ret2
  exact ⟨_,qe,ql,qb⟩
end Go.Proofs.YthffpjkkmkjplaaDoor.S
namespace Go.Proofs.YthffpjkkmkjplaaDoor.S
open Go.Proofs.YthffpjkkmkjplaaDoor.Al
open Go.Proofs.YthffpjkkmkjplaaDoorW.PrintWords
open Go.Proofs.YthffpjkkmkjplaaDoor.Sq
open Go.RowKit Go.Proofs.YthffpjkkmkjplaaDoorW.PrintWords Go.Proofs.YthffpjkkmkjplaaDoorW.PrintLast Go.Proofs.YthffpjkkmkjplaaDoorW.PrintMore
attribute [local go_sem] max2_int min2_int max_two min_two max_three min_three max_four min_four
set_option linter.unusedVariables false
set_option linter.unusedSimpArgs false
theorem eqA73 (d:Nat) (w:World) (x0 y0:Int) (x1 y1:Int) :
  (Op.equalIn (d + 2) 73 (.agg #[.int .i64 x0,.int .i64 x1]) (.agg #[.int .i64 y0,.int .i64 y1])).run Tryd.prog w = .ok (x0 == y0 && (x1 == y1)) w:=by
 refine eqA_of Tryd.underlying73 (by kernel_rfl) ?_
 refine eqf_cons (by rfl) (by go_simp;rfl) (by go_simp;rfl) (by go_simp) ?_
 exact eqf_last (by rfl) (by go_simp;rfl) (by go_simp;rfl) (by go_simp)
end Go.Proofs.YthffpjkkmkjplaaDoor.S
namespace Go.Proofs.YthffpjkkmkjplaaDoor.S
open Go.Proofs.YthffpjkkmkjplaaDoor.Al
open Go.Proofs.YthffpjkkmkjplaaDoorW.PrintWords
open Go.Proofs.YthffpjkkmkjplaaDoor.Sq
open Go.RowKit Go.Proofs.YthffpjkkmkjplaaDoorW.PrintWords Go.Proofs.YthffpjkkmkjplaaDoorW.PrintLast Go.Proofs.YthffpjkkmkjplaaDoorW.PrintMore
attribute [local go_sem] max2_int min2_int max_two min_two max_three min_three max_four min_four
set_option linter.unusedVariables false
set_option linter.unusedSimpArgs false
attribute [local go_sem high] eqA73
def foretelllaw_sameSpots.l0:Nat → List (S73) → List (S73) → Int → Option (Bool)
 | 0,_,_,_=>none
 | k + 1,x0,x1,x5=>if x5 < (x0.length:Int) then (if 0 ≤ x5 then (if x5 < (x1.length:Int) then (if (!(((rd_T73 x0 x5).f0) == ((rd_T73 x1 x5).f0)) || (!(((rd_T73 x0 x5).f1) == ((rd_T73 x1 x5).f1)))) = true then (some false) else (foretelllaw_sameSpots.l0 k x0 x1 (wrap64 (x5 + 1)))) else (none)) else (none)) else (some true)
def foretelllaw_sameSpots.f (k:Nat) (l0:List (S73)) (l1:List (S73)):Option (Bool):=if (l0.length:Int) = (l1.length:Int) then (foretelllaw_sameSpots.l0 k l0 l1 0) else (some false)
theorem foretelllaw_sameSpots.mono_l:∀ k,(∀ y0 y1 y2,LeO (foretelllaw_sameSpots.l0 k y0 y1 y2) (foretelllaw_sameSpots.l0 (k + 1) y0 y1 y2))
 | 0=>fun _ _ _ r h=>by simp [foretelllaw_sameSpots.l0] at h
 | k + 1=>by
  have ih0:=foretelllaw_sameSpots.mono_l k
  ·intro y0 y1 y2
   unfold foretelllaw_sameSpots.l0
   exact qL
theorem foretelllaw_sameSpots.mono:∀ a0 a1 k,LeO (foretelllaw_sameSpots.f k a0 a1) (foretelllaw_sameSpots.f (k + 1) a0 a1):=by
 intro a0 a1 k
 have ih0:=foretelllaw_sameSpots.mono_l k
 unfold foretelllaw_sameSpots.f
 exact qL
set_option maxHeartbeats 8000000 in
set_option maxRecDepth 100000 in
theorem foretelllaw_sameSpots.calls (k:Nat) (A0:Option Addr) (c0:Nat) (l0:List (S73)) (A1:Option Addr) (c1:Nat) (l1:List (S73)) (r:Bool) (w:World) (hr0:Kd.C k73 w A0 l0.length l0) (hc0:l0.length ≤ c0) (hr1:Kd.C k73 w A1 l1.length l1) (hc1:l1.length ≤ c1) (h:foretelllaw_sameSpots.f k l0 l1 = some r) :
  Calls Tryd.prog 21 #[.slice A0 l0.length c0,.slice A1 l1.length c1] w fun e w'=>e = .returned (.bool r)∧Drawn0 w w':=by
 have hu73:=Tryd.underlying73
 have HR0:=zA hr0
 have HC0:=zA hc0
 clear hr0 hc0
 have HR1:=zA hr1
 have HC1:=zA hc1
 clear hr1 hc1
 have H:(if (l0.length:Int) = (l1.length:Int) then (foretelllaw_sameSpots.l0 k l0 l1 0) else (some false)) = some r:=h
 clear h
 by_cases c3:(l0.length:Int) = (l1.length:Int)
 ·rw [if_pos c3] at H
  have c3b0:((l0.length:Int) == (l1.length:Int)) = true:=beq_iff_eq.mpr c3
  have c3b1:((l0.length:Int) != (l1.length:Int)) = false:=bne_eq_false_iff_eq.mpr c3
  have c3b2:(l0.length == l1.length) = true:=by first|simpa using c3|(simp at c3 ⊢;omega)
  clear c3
  have H':=zA H
  clear H
  go_enter Tryd.func21,Tryd.ntmps21
  go_wp2
  repeat (go_quiet (fail);try go_wp2)
  go_loopg [5] k (fun kq v5 w'=>∃ (x5_1:Int),v5 = .int .i64 x5_1∧Aside0 (foretelllaw_sameSpots.l0 kq l0 l1 x5_1 = some r)∧Aside0 (kq ≤ k)∧Drawn0 w w')
  case atStart=>exact ⟨(0),qr,H',⟨Nat.le_refl _⟩,qt⟩
  case round =>
   clear H'
   try clear c1
   try clear c2
   try clear p2
   try clear c3
   try clear c3b0
   try clear c3b1
   try clear c3b2
   obtain ⟨x5_1,rfl,HA,HK1,⟨m1,rfl⟩⟩:=hrel
   cases gk with
   | zero=>exact absurd HA.out (by simp [foretelllaw_sameSpots.l0])
   | succ k1 =>
    have H:=HA.out
    clear HA
    simp only [foretelllaw_sameSpots.l0] at H
    rcases qj H with ⟨c4b0,H⟩|⟨c4b0,H⟩
    ·rcases qj H with ⟨c5b0,H⟩|⟨c5,H⟩
     ·rcases qj H with ⟨c6b0,H⟩|⟨c6,H⟩
      ·by_cases c7:(!(((rd_T73 l0 x5_1).f0) == ((rd_T73 l1 x5_1).f0)) || (!(((rd_T73 l0 x5_1).f1) == ((rd_T73 l1 x5_1).f1)))) = true
       ·rw [if_pos c7] at H
        have c7b0:(!(((rd_T73 l0 x5_1).f0) == ((rd_T73 l1 x5_1).f0)) || (!(((rd_T73 l0 x5_1).f1) == ((rd_T73 l1 x5_1).f1)))) = true:=c7
        clear c7
        obtain rfl:=Option.some.inj H
        have p501:0 ≤ (x5_1:Int):=qd
        have q501:x5_1 < (l0.length:Int):=qd
        obtain ⟨ad501,e501,hx501_0,hx501_1⟩:=at_T73 HR0.out x5_1 p501 q501
        cases e501
        replace p501:=eq_true p501
        replace q501:=eq_true q501
        have p502:0 ≤ (x5_1:Int):=qd
        have q502:x5_1 < (l1.length:Int):=qd
        obtain ⟨ad502,e502,hx502_0,hx502_1⟩:=at_T73 HR1.out x5_1 p502 q502
        cases e502
        replace p502:=eq_true p502
        replace q502:=eq_true q502
        go_wp2
        repeat (go_quiet (fail);try go_wp2)
        go_ret
        exact ⟨qr,qt⟩
       ·rw [if_neg c7] at H
        have c7b0:(!(((rd_T73 l0 x5_1).f0) == ((rd_T73 l1 x5_1).f0)) || (!(((rd_T73 l0 x5_1).f1) == ((rd_T73 l1 x5_1).f1)))) = false:=by simpa using c7
        clear c7
        have H':=zA H
        clear H
        have p501:0 ≤ (x5_1:Int):=qd
        have q501:x5_1 < (l0.length:Int):=qd
        obtain ⟨ad501,e501,hx501_0,hx501_1⟩:=at_T73 HR0.out x5_1 p501 q501
        cases e501
        replace p501:=eq_true p501
        replace q501:=eq_true q501
        have p502:0 ≤ (x5_1:Int):=qd
        have q502:x5_1 < (l1.length:Int):=qd
        obtain ⟨ad502,e502,hx502_0,hx502_1⟩:=at_T73 HR1.out x5_1 p502 q502
        cases e502
        replace p502:=eq_true p502
        replace q502:=eq_true q502
        go_wp2
        repeat (go_quiet (fail);try go_wp2)
        go_roundg k1
        case measure=>have:=HK1.out;omega
        case rel=>exact ⟨(wrap64 (x5_1 + 1)),qr,H',⟨qo HK1⟩,qt⟩
      ·exact absurd H (by simp)
     ·exact absurd H (by simp)
    ·obtain rfl:=Option.some.inj H
     go_wp2
     repeat (go_quiet (fail);try go_wp2)
     go_ret
     exact ⟨qr,qt⟩
 ·rw [if_neg c3] at H
  have c3b0:((l0.length:Int) == (l1.length:Int)) = false:=beq_eq_false_iff_ne.mpr c3
  have c3b1:((l0.length:Int) != (l1.length:Int)) = true:=bne_iff_ne.mpr c3
  have c3b2:(l0.length == l1.length) = false:=by first|simpa using c3|(simp at c3 ⊢;omega)
  obtain rfl:=Option.some.inj H
  go_enter Tryd.func21,Tryd.ntmps21
  go_wp2
  repeat (go_quiet (fail);try go_wp2)
  go_ret
  exact ⟨qr,qt⟩
end Go.Proofs.YthffpjkkmkjplaaDoor.S
namespace Go.Proofs.YthffpjkkmkjplaaDoor.S
open Go.Proofs.YthffpjkkmkjplaaDoor.Al
open Option renaming bind_eq_some_iff → zb
open Go.Proofs.YthffpjkkmkjplaaDoorW.PrintWords renaming below_step → zH, blk_frozen → zJ, gate_callee → zU, gate_dst → zV
open Go.Proofs.YthffpjkkmkjplaaDoor.Sq
open Go.RowKit Go.Proofs.YthffpjkkmkjplaaDoorW.PrintWords Go.Proofs.YthffpjkkmkjplaaDoorW.PrintLast Go.Proofs.YthffpjkkmkjplaaDoorW.PrintMore
attribute [local go_sem] max2_int min2_int max_two min_two max_three min_three max_four min_four
set_option linter.unusedVariables false
set_option linter.unusedSimpArgs false
def foretelllaw_ProductBegins.f (k:Nat) (l0_0:List (S86)) (l0_1:List (S93)) (l0_2:List (List (S65))) (l0_3:List (S65)):Option (Bool):=(foretelllaw_tasks.f k l0_0 l0_1 l0_2 l0_3).bind fun bt504=>((product_Begin.f k bt504.1 bt504.2.1 bt504.2.2.1 bt504.2.2.2).bind fun bt516=>((foretellref_BeginOf.f k l0_0 l0_1 l0_2 l0_3).bind fun bt520=>(if bt516.2 = bt520.2 then ((foretelllaw_sameSpots.f k bt516.1 bt520.1).bind fun t524=>(some t524)) else (some false))))
theorem foretelllaw_ProductBegins.mono:∀ a0 a1 a2 a3 k,LeO (foretelllaw_ProductBegins.f k a0 a1 a2 a3) (foretelllaw_ProductBegins.f (k + 1) a0 a1 a2 a3):=by
 intro a0 a1 a2 a3 k
 unfold foretelllaw_ProductBegins.f
 exact qM (And.intro @foretelllaw_sameSpots.mono (And.intro @foretelllaw_tasks.mono (And.intro @foretellref_BeginOf.mono @product_Begin.mono)))
set_option maxHeartbeats 8000000 in
set_option maxRecDepth 100000 in
theorem foretelllaw_ProductBegins.calls (k:Nat) (A0_0:Option Addr) (c0_0:Nat) (l0_0:List (S86)) (A0_1:Option Addr) (c0_1:Nat) (l0_1:List (S93)) (A0_2:Option Addr) (c0_2:Nat) (l0_2:List (List (S65))) (A0_3:Option Addr) (c0_3:Nat) (l0_3:List (S65)) (r:Bool) (w:World) (hr0_0:Kd.C k86 w A0_0 l0_0.length l0_0) (hc0_0:l0_0.length ≤ c0_0) (hr0_1:Kd.C k93 w A0_1 l0_1.length l0_1) (hc0_1:l0_1.length ≤ c0_1) (hr0_2:Kd.C (Kd.slice 65 k65) w A0_2 l0_2.length l0_2) (hc0_2:l0_2.length ≤ c0_2) (hr0_3:Kd.C k65 w A0_3 l0_3.length l0_3) (hc0_3:l0_3.length ≤ c0_3) (hL:LaidG w) (h:foretelllaw_ProductBegins.f k l0_0 l0_1 l0_2 l0_3 = some r) :
  Calls Tryd.prog 6 #[.agg #[.slice A0_0 l0_0.length c0_0,.slice A0_1 l0_1.length c0_1,.slice A0_2 l0_2.length c0_2,.slice A0_3 l0_3.length c0_3]] w fun e w'=>e = .returned (.bool r)∧Below w.heap.size w w':=by
 have HLd:=zA hL
 clear hL
 have hu47:=Tryd.underlying47
 have HR0_0:=zA hr0_0
 have HC0_0:=zA hc0_0
 clear hr0_0 hc0_0
 have HR0_1:=zA hr0_1
 have HC0_1:=zA hc0_1
 clear hr0_1 hc0_1
 have HR0_2:=zA hr0_2
 have HC0_2:=zA hc0_2
 clear hr0_2 hc0_2
 have HR0_3:=zA hr0_3
 have HC0_3:=zA hc0_3
 clear hr0_3 hc0_3
 have HB:=zA (Below.refl w.heap.size w)
 have H:((foretelllaw_tasks.f k l0_0 l0_1 l0_2 l0_3).bind fun bt504=>((product_Begin.f k bt504.1 bt504.2.1 bt504.2.2.1 bt504.2.2.2).bind fun bt516=>((foretellref_BeginOf.f k l0_0 l0_1 l0_2 l0_3).bind fun bt520=>(if bt516.2 = bt520.2 then ((foretelllaw_sameSpots.f k bt516.1 bt520.1).bind fun t524=>(some t524)) else (some false))))) = some r:=h
 clear h
 replace H:=zb.mp H
 obtain ⟨⟨t504,t507,t510,t513⟩,A20,H⟩:=H
 replace H:((product_Begin.f k t504 t507 t510 t513).bind fun bt516=>((foretellref_BeginOf.f k l0_0 l0_1 l0_2 l0_3).bind fun bt520=>(if bt516.2 = bt520.2 then ((foretelllaw_sameSpots.f k bt516.1 bt520.1).bind fun t524=>(some t524)) else (some false)))) = some r:=H
 have A2:=zA A20
 clear A20
 replace H:=zb.mp H
 obtain ⟨⟨t516,t519⟩,A30,H⟩:=H
 replace H:((foretellref_BeginOf.f k l0_0 l0_1 l0_2 l0_3).bind fun bt520=>(if t519 = bt520.2 then ((foretelllaw_sameSpots.f k t516 bt520.1).bind fun t524=>(some t524)) else (some false))) = some r:=H
 have A3:=zA A30
 clear A30
 replace H:=zb.mp H
 obtain ⟨⟨t520,t523⟩,A40,H⟩:=H
 replace H:(if t519 = t523 then ((foretelllaw_sameSpots.f k t516 t520).bind fun t524=>(some t524)) else (some false)) = some r:=H
 have A4:=zA A40
 clear A40
 by_cases c5:t519 = t523
 ·rw [if_pos c5] at H
  have c5b0:(t519 == t523) = true:=beq_iff_eq.mpr c5
  have c5b1:(t519 != t523) = false:=bne_eq_false_iff_eq.mpr c5
  clear c5
  replace H:=zb.mp H
  obtain ⟨t524,A60,H⟩:=H
  replace H:(some t524) = some r:=H
  have A6:=zA A60
  clear A60
  obtain rfl:=Option.some.inj H
  go_enter Tryd.func6,Tryd.ntmps6
  go_wp2_with (first|((with_reducible refine zV (N:=1) rfl ?_);refine bq 1 (cs:=#[.slice A0_0 l0_0.length c0_0,.slice A0_1 l0_1.length c0_1,.slice A0_2 l0_2.length c0_2,.slice A0_3 l0_3.length c0_3]) (t:=47) ?_;intro gb503 hg w7 hbox hb;have BK503:=zA (hbox);have GW503:=zA (qg hg);have GE503:=zA (qg hg);replace HB:=zA (zH qb hb);clear hb hbox hg;have hcz8_0:=qx BK503 0;have hcz8_1:=qx BK503 1;have hcz8_2:=qx BK503 2;have hcz8_3:=qx BK503 3;have hfz8_0:=zJ BK503.out 0;have hfz8_1:=zJ BK503.out 1;have hfz8_2:=zJ BK503.out 2;have hfz8_3:=zJ BK503.out 3)|((with_reducible refine zU (f:=19) rfl ?_);refine gL (some 9) Tryd.func19 #[.agg #[.slice A0_0 l0_0.length c0_0,.slice A0_1 l0_1.length c0_1,.slice A0_2 l0_2.length c0_2,.slice A0_3 l0_3.length c0_3]] ?_;(with_reducible refine (foretelllaw_tasks.calls k _ _ l0_0 _ _ l0_1 _ _ l0_2 _ _ l0_3 t504 t507 t510 t513 _ (qc HR0_0) HC0_0.out (qc HR0_1) HC0_1.out (qc HR0_2) HC0_2.out (qc HR0_3) HC0_3.out A2.out).mono ?_);rintro e w9 ⟨v505,v508,v511,v514,rfl,ho0,ho1,ho2,ho3,hb⟩;refine ⟨_,rfl,?_⟩;have HO506:=zA (Kd.R_lower ho0 qs);have HO509:=zA (Kd.R_lower ho1 qs);have HO512:=zA (Kd.S_lower ho2 qs);have HO515:=zA (Kd.R_lower ho3 qs);replace BK503:=qK BK503 hb;replace HB:=zA (zH qb hb);clear ho0 ho1 ho2 ho3 hb;obtain ⟨Ao10,co10,eo10⟩:=Kd.R_slice HO506.out;subst eo10;obtain ⟨Ao11,co11,eo11⟩:=Kd.R_slice HO509.out;subst eo11;obtain ⟨Ao12,co12,eo12⟩:=Kd.S_slice HO512.out;subst eo12;obtain ⟨Ao13,co13,eo13⟩:=Kd.R_slice HO515.out;subst eo13)|((with_reducible refine zU (f:=18) rfl ?_);refine gL (some 10) Tryd.func18 #[.agg #[.slice Ao10 t504.length co10,.slice Ao11 t507.length co11,.slice Ao12 t510.length co12,.slice Ao13 t513.length co13]] ?_;(with_reducible refine (product_Begin.calls k _ _ t504 _ _ t507 _ _ t510 _ _ t513 t516 t519 _ (qu (Kd.R_reads' HO506.out).2.2) ((Kd.R_reads' HO506.out).2.1) (qu (Kd.R_reads' HO509.out).2.2) ((Kd.R_reads' HO509.out).2.1) (qu (Kd.S_reads' HO512.out).2.2) ((Kd.S_reads' HO512.out).2.1) (qu (Kd.R_reads' HO515.out).2.2) ((Kd.R_reads' HO515.out).2.1) qD A3.out).mono ?_);rintro e w14 ⟨v517,rfl,ho0,hb⟩;refine ⟨_,rfl,?_⟩;replace HO506:=zA (Kd.R_below (qR HO506) hb);replace HO509:=zA (Kd.R_below (qR HO509) hb);replace HO512:=zA (Kd.S_below (qS HO512) hb);replace HO515:=zA (Kd.R_below (qR HO515) hb);have HO518:=zA (Kd.R_lower ho0 qs);replace BK503:=qK BK503 hb;replace HB:=zA (zH qb hb);clear ho0 hb;have hcz15_0:=qx BK503 0;have hcz15_1:=qx BK503 1;have hcz15_2:=qx BK503 2;have hcz15_3:=qx BK503 3;have hfz15_0:=zJ BK503.out 0;have hfz15_1:=zJ BK503.out 1;have hfz15_2:=zJ BK503.out 2;have hfz15_3:=zJ BK503.out 3)|((with_reducible refine zU (f:=20) rfl ?_);refine gL (some 15) Tryd.func20 #[.agg #[.slice A0_0 l0_0.length c0_0,.slice A0_1 l0_1.length c0_1,.slice A0_2 l0_2.length c0_2,.slice A0_3 l0_3.length c0_3]] ?_;(with_reducible refine (foretellref_BeginOf.calls k _ _ l0_0 _ _ l0_1 _ _ l0_2 _ _ l0_3 t520 t523 _ (qc HR0_0) HC0_0.out (qc HR0_1) HC0_1.out (qc HR0_2) HC0_2.out (qc HR0_3) HC0_3.out A4.out).mono ?_);rintro e w16 ⟨v521,rfl,ho0,hb⟩;refine ⟨_,rfl,?_⟩;replace HO506:=zA (Kd.R_below (qR HO506) hb);replace HO509:=zA (Kd.R_below (qR HO509) hb);replace HO512:=zA (Kd.S_below (qS HO512) hb);replace HO515:=zA (Kd.R_below (qR HO515) hb);have HO522:=zA (Kd.R_lower (Kd.R_new' ho0 (Kd.R_lt (qR HO518))) qs);replace HO518:=zA (Kd.R_elder' (qR HO518) (Kd.R_base ho0) hb);replace BK503:=qK BK503 hb;replace HB:=zA (zH qb hb);clear ho0 hb;obtain ⟨Ao17,co17,eo17⟩:=Kd.R_slice HO518.out;subst eo17;obtain ⟨Ao18,co18,eo18⟩:=Kd.R_slice HO522.out;subst eo18)|(go_at_call 21;(with_reducible refine (foretelllaw_sameSpots.calls k _ _ t516 _ _ t520 t524 _ (qu (Kd.R_reads' HO518.out).2.2) ((Kd.R_reads' HO518.out).2.1) (qu (Kd.R_reads' HO522.out).2.2) ((Kd.R_reads' HO522.out).2.1) A6.out).mono ?_);rintro e w' ⟨rfl,⟨nd,rfl⟩⟩))
  go_ret
  exact ⟨qe,qb⟩
 ·rw [if_neg c5] at H
  have c5b0:(t519 == t523) = false:=beq_eq_false_iff_ne.mpr c5
  have c5b1:(t519 != t523) = true:=bne_iff_ne.mpr c5
  obtain rfl:=Option.some.inj H
  go_enter Tryd.func6,Tryd.ntmps6
  go_wp2_with (first|((with_reducible refine zV (N:=1) rfl ?_);refine bq 1 (cs:=#[.slice A0_0 l0_0.length c0_0,.slice A0_1 l0_1.length c0_1,.slice A0_2 l0_2.length c0_2,.slice A0_3 l0_3.length c0_3]) (t:=47) ?_;intro gb503 hg w19 hbox hb;have BK503:=zA (hbox);have GW503:=zA (qg hg);have GE503:=zA (qg hg);replace HB:=zA (zH qb hb);clear hb hbox hg;have hcz20_0:=qx BK503 0;have hcz20_1:=qx BK503 1;have hcz20_2:=qx BK503 2;have hcz20_3:=qx BK503 3;have hfz20_0:=zJ BK503.out 0;have hfz20_1:=zJ BK503.out 1;have hfz20_2:=zJ BK503.out 2;have hfz20_3:=zJ BK503.out 3)|((with_reducible refine zU (f:=19) rfl ?_);refine gL (some 9) Tryd.func19 #[.agg #[.slice A0_0 l0_0.length c0_0,.slice A0_1 l0_1.length c0_1,.slice A0_2 l0_2.length c0_2,.slice A0_3 l0_3.length c0_3]] ?_;(with_reducible refine (foretelllaw_tasks.calls k _ _ l0_0 _ _ l0_1 _ _ l0_2 _ _ l0_3 t504 t507 t510 t513 _ (qc HR0_0) HC0_0.out (qc HR0_1) HC0_1.out (qc HR0_2) HC0_2.out (qc HR0_3) HC0_3.out A2.out).mono ?_);rintro e w21 ⟨v505,v508,v511,v514,rfl,ho0,ho1,ho2,ho3,hb⟩;refine ⟨_,rfl,?_⟩;have HO506:=zA (Kd.R_lower ho0 qs);have HO509:=zA (Kd.R_lower ho1 qs);have HO512:=zA (Kd.S_lower ho2 qs);have HO515:=zA (Kd.R_lower ho3 qs);replace BK503:=qK BK503 hb;replace HB:=zA (zH qb hb);clear ho0 ho1 ho2 ho3 hb;obtain ⟨Ao22,co22,eo22⟩:=Kd.R_slice HO506.out;subst eo22;obtain ⟨Ao23,co23,eo23⟩:=Kd.R_slice HO509.out;subst eo23;obtain ⟨Ao24,co24,eo24⟩:=Kd.S_slice HO512.out;subst eo24;obtain ⟨Ao25,co25,eo25⟩:=Kd.R_slice HO515.out;subst eo25)|((with_reducible refine zU (f:=18) rfl ?_);refine gL (some 10) Tryd.func18 #[.agg #[.slice Ao22 t504.length co22,.slice Ao23 t507.length co23,.slice Ao24 t510.length co24,.slice Ao25 t513.length co25]] ?_;(with_reducible refine (product_Begin.calls k _ _ t504 _ _ t507 _ _ t510 _ _ t513 t516 t519 _ (qu (Kd.R_reads' HO506.out).2.2) ((Kd.R_reads' HO506.out).2.1) (qu (Kd.R_reads' HO509.out).2.2) ((Kd.R_reads' HO509.out).2.1) (qu (Kd.S_reads' HO512.out).2.2) ((Kd.S_reads' HO512.out).2.1) (qu (Kd.R_reads' HO515.out).2.2) ((Kd.R_reads' HO515.out).2.1) qD A3.out).mono ?_);rintro e w26 ⟨v517,rfl,ho0,hb⟩;refine ⟨_,rfl,?_⟩;replace HO506:=zA (Kd.R_below (qR HO506) hb);replace HO509:=zA (Kd.R_below (qR HO509) hb);replace HO512:=zA (Kd.S_below (qS HO512) hb);replace HO515:=zA (Kd.R_below (qR HO515) hb);have HO518:=zA (Kd.R_lower ho0 qs);replace BK503:=qK BK503 hb;replace HB:=zA (zH qb hb);clear ho0 hb;have hcz27_0:=qx BK503 0;have hcz27_1:=qx BK503 1;have hcz27_2:=qx BK503 2;have hcz27_3:=qx BK503 3;have hfz27_0:=zJ BK503.out 0;have hfz27_1:=zJ BK503.out 1;have hfz27_2:=zJ BK503.out 2;have hfz27_3:=zJ BK503.out 3)|((with_reducible refine zU (f:=20) rfl ?_);refine gL (some 15) Tryd.func20 #[.agg #[.slice A0_0 l0_0.length c0_0,.slice A0_1 l0_1.length c0_1,.slice A0_2 l0_2.length c0_2,.slice A0_3 l0_3.length c0_3]] ?_;(with_reducible refine (foretellref_BeginOf.calls k _ _ l0_0 _ _ l0_1 _ _ l0_2 _ _ l0_3 t520 t523 _ (qc HR0_0) HC0_0.out (qc HR0_1) HC0_1.out (qc HR0_2) HC0_2.out (qc HR0_3) HC0_3.out A4.out).mono ?_);rintro e w28 ⟨v521,rfl,ho0,hb⟩;refine ⟨_,rfl,?_⟩;replace HO506:=zA (Kd.R_below (qR HO506) hb);replace HO509:=zA (Kd.R_below (qR HO509) hb);replace HO512:=zA (Kd.S_below (qS HO512) hb);replace HO515:=zA (Kd.R_below (qR HO515) hb);have HO522:=zA (Kd.R_lower (Kd.R_new' ho0 (Kd.R_lt (qR HO518))) qs);replace HO518:=zA (Kd.R_elder' (qR HO518) (Kd.R_base ho0) hb);replace BK503:=qK BK503 hb;replace HB:=zA (zH qb hb);clear ho0 hb))
  go_ret
  exact ⟨qe,qb⟩
end Go.Proofs.YthffpjkkmkjplaaDoor.S
