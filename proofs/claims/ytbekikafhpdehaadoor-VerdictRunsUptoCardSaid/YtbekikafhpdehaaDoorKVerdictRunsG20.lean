import Derived.Test.YtbekikafhpdehaaDoorKVerdictRunsG9
namespace Go.Proofs.YtbekikafhpdehaaDoor.V
open Go.Proofs.YtbekikafhpdehaaDoor.Al
open Go.Proofs.YtbekikafhpdehaaDoorW.PrintWords
open Go.Proofs.YtbekikafhpdehaaDoor.Sq
open Go.RowKit Go.Proofs.YtbekikafhpdehaaDoorW.PrintWords Go.Proofs.YtbekikafhpdehaaDoorW.PrintLast Go.Proofs.YtbekikafhpdehaaDoorW.PrintMore
attribute [local go_sem] max2_int min2_int max_two min_two max_three min_three max_four min_four
set_option linter.unusedVariables false
set_option linter.unusedSimpArgs false
def foretellref_In.f (a0:Int) (a1:Int) (a2:Int):Option (Bool):=if a0 ≥ a1 then (some (decide (a0 ≤ a2))) else (some false)
set_option maxHeartbeats 8000000 in
set_option maxRecDepth 100000 in
theorem foretellref_In.calls (a0:Int) (a1:Int) (a2:Int) (r:Bool) (w:World) (h:foretellref_In.f a0 a1 a2 = some r) :
  Calls Tryd.prog 24 #[.int .i64 a0,.int .i64 a1,.int .i64 a2] w fun e w'=>e = .returned (.bool r)∧Drawn0 w w':=by
 have H:(if a0 ≥ a1 then (some (decide (a0 ≤ a2))) else (some false)) = some r:=h;clear h;by_cases c4:a0 ≥ a1
 ·rw [if_pos c4] at H;have c4b0:decide (a1 ≤ a0) = true:=zQ c4;clear c4;obtain rfl:=Option.some.inj H;go_enter Tryd.func24,Tryd.ntmps24;go_wp2;go_ret;exact ⟨qr,qt⟩
 ·rw [if_neg c4] at H;have c4b0:decide (a1 ≤ a0) = false:=zR c4;clear c4;obtain rfl:=Option.some.inj H;go_enter Tryd.func24,Tryd.ntmps24;go_wp2;go_ret;exact ⟨qr,qt⟩
mutual
def foretellref_PartsOf.j0:Nat → Int → Bool → Option (Int × Int)
 | 0,_,_=>none
 | k + 1,x4,x5=>if x5 = true then (some (0,0)) else (if x4 = 10 then (foretellref_PartsOf.j1 k x4 (x4 == 10)) else (if x4 = 14 then (foretellref_PartsOf.j1 k x4 (x4 == 14)) else (if x4 = 17 then (foretellref_PartsOf.j1 k x4 (x4 == 17)) else (foretellref_PartsOf.j1 k x4 (x4 == 18)))))
def foretellref_PartsOf.j1:Nat → Int → Bool → Option (Int × Int)
 | 0,_,_=>none
 | k + 1,x4,x11=>if x11 = true then (some (1,0)) else (if x4 = 3 then (some (2,0)) else (if x4 = 4 then (some (2,0)) else (if x4 = 5 then (some (2,0)) else (if x4 = 6 then (some (2,0)) else (if x4 = 7 then (some (2,0)) else (if x4 = 8 then (some (2,0)) else (if x4 = 9 then (some (2,0)) else (if x4 = 15 then (some (2,0)) else (if x4 = 16 then (some (2,0)) else (some (0,13)))))))))))
end
def foretellref_PartsOf.f (k:Nat) (a0:Int):Option (Int × Int):=if a0 = 1 then (foretellref_PartsOf.j0 k a0 (a0 == 1)) else (if a0 = 2 then (foretellref_PartsOf.j0 k a0 (a0 == 2)) else (if a0 = 11 then (foretellref_PartsOf.j0 k a0 (a0 == 11)) else (if a0 = 12 then (foretellref_PartsOf.j0 k a0 (a0 == 12)) else (foretellref_PartsOf.j0 k a0 (a0 == 13)))))
theorem foretellref_PartsOf.mono_l:∀ k,(∀ y0 y1,LeO (foretellref_PartsOf.j0 k y0 y1) (foretellref_PartsOf.j0 (k + 1) y0 y1))∧(∀ y0 y1,LeO (foretellref_PartsOf.j1 k y0 y1) (foretellref_PartsOf.j1 (k + 1) y0 y1))
 | 0=>⟨fun _ _ r h=>by simp [foretellref_PartsOf.j0] at h,fun _ _ r h=>by simp [foretellref_PartsOf.j1] at h⟩
 | k + 1=>by
  obtain ⟨ih0,ih1⟩:=foretellref_PartsOf.mono_l k
  refine ⟨?_,?_⟩
  ·intro y0 y1
   unfold foretellref_PartsOf.j0
   exact qL
  ·intro y0 y1
   unfold foretellref_PartsOf.j1
   exact qL
theorem foretellref_PartsOf.mono:∀ a0 k,LeO (foretellref_PartsOf.f k a0) (foretellref_PartsOf.f (k + 1) a0):=by
 intro a0 k;obtain ⟨ih0,ih1⟩:=foretellref_PartsOf.mono_l k;unfold foretellref_PartsOf.f;exact qL
set_option maxHeartbeats 8000000 in
set_option maxRecDepth 100000 in
theorem foretellref_PartsOf.calls (k:Nat) (a0:Int) (r1:Int) (r2:Int) (w:World) (h:foretellref_PartsOf.f k a0 = some (r1,r2)) :
  Calls Tryd.prog 86 #[.int .i64 a0] w fun e w'=>e = .returned (.tuple #[.int .i64 r1,.int .i64 r2])∧Drawn0 w w':=by
 have H:(if a0 = 1 then (foretellref_PartsOf.j0 k a0 (a0 == 1)) else (if a0 = 2 then (foretellref_PartsOf.j0 k a0 (a0 == 2)) else (if a0 = 11 then (foretellref_PartsOf.j0 k a0 (a0 == 11)) else (if a0 = 12 then (foretellref_PartsOf.j0 k a0 (a0 == 12)) else (foretellref_PartsOf.j0 k a0 (a0 == 13)))))) = some (r1,r2):=h;clear h;have HC2:=zA H;clear H;go_enter Tryd.func86,Tryd.ntmps86;go_upto_if 5 with (fail);go_cut [5] (fun v5 wc=>∃ (kq:Nat) (x5_1:Bool),v5 = .bool x5_1∧Aside0 (foretellref_PartsOf.j0 kq a0 x5_1 = some (r1,r2))∧Aside0 (kq ≤ k)∧Drawn0 w wc)
 case first =>
  have H:=HC2.out;clear HC2;by_cases c3:a0 = 1
  ·rw [if_pos c3] at H;have c3b0:(a0 == 1) = true:=beq_iff_eq.mpr c3;have c3b1:(a0 != 1) = false:=bne_eq_false_iff_eq.mpr c3;clear c3;(first|rw [c3b0]|(simp only [i64_w,i32_w];rw [c3b0])|skip);have H':=zA H;clear H;go_wp2;go_meet
   case rel=>exact ⟨_,((a0 == 1)),qr,H',⟨qm⟩,qt⟩
  ·rw [if_neg c3] at H;have c3b0:(a0 == 1) = false:=beq_eq_false_iff_ne.mpr c3;have c3b1:(a0 != 1) = true:=bne_iff_ne.mpr c3;(first|rw [c3b0]|(simp only [i64_w,i32_w];rw [c3b0])|skip);by_cases c4:a0 = 2
   ·rw [if_pos c4] at H;have c4b0:(a0 == 2) = true:=beq_iff_eq.mpr c4;have c4b1:(a0 != 2) = false:=bne_eq_false_iff_eq.mpr c4;clear c4;have H':=zA H;clear H;go_wp2;go_meet
    case rel=>exact ⟨_,((a0 == 2)),qr,H',⟨qm⟩,qt⟩
   ·rw [if_neg c4] at H;have c4b0:(a0 == 2) = false:=beq_eq_false_iff_ne.mpr c4;have c4b1:(a0 != 2) = true:=bne_iff_ne.mpr c4;by_cases c5:a0 = 11
    ·rw [if_pos c5] at H;have c5b0:(a0 == 11) = true:=beq_iff_eq.mpr c5;have c5b1:(a0 != 11) = false:=bne_eq_false_iff_eq.mpr c5;clear c5;have H':=zA H;clear H;go_wp2;go_meet
     case rel=>exact ⟨_,((a0 == 11)),qr,H',⟨qm⟩,qt⟩
    ·rw [if_neg c5] at H;have c5b0:(a0 == 11) = false:=beq_eq_false_iff_ne.mpr c5;have c5b1:(a0 != 11) = true:=bne_iff_ne.mpr c5;by_cases c6:a0 = 12
     ·rw [if_pos c6] at H;have c6b0:(a0 == 12) = true:=beq_iff_eq.mpr c6;have c6b1:(a0 != 12) = false:=bne_eq_false_iff_eq.mpr c6;clear c6;have H':=zA H;clear H;go_wp2;go_meet
      case rel=>exact ⟨_,((a0 == 12)),qr,H',⟨qm⟩,qt⟩
     ·rw [if_neg c6] at H;have c6b0:(a0 == 12) = false:=beq_eq_false_iff_ne.mpr c6;have c6b1:(a0 != 12) = true:=bne_iff_ne.mpr c6;have H':=zA H;clear H;go_wp2;go_meet
      case rel=>exact ⟨_,((a0 == 13)),qr,H',⟨qm⟩,qt⟩
 case rest =>
  clear HC2;obtain ⟨kq,x5_1,rfl,HA,HJ1,⟨mc1,rfl⟩⟩:=hcut;cases kq with
  | zero=>exact absurd HA.out (by simp [foretellref_PartsOf.j0])
  | succ kj1 =>
   have H:=HA.out;clear HA;simp only [foretellref_PartsOf.j0] at H;by_cases c7:x5_1 = true
   ·subst c7;have H1:(some (0,0)) = some (r1,r2):=by rw [if_pos rfl] at H;exact H
    clear H;have H:=H1;clear H1;simp only [Option.some.injEq,Prod.mk.injEq] at H;obtain ⟨rfl,rfl⟩:=H;go_wp2;go_ret2;exact ⟨qr,qt⟩
   ·replace c7:=Bool.eq_false_iff.mpr c7;subst c7;have H1:(if a0 = 10 then (foretellref_PartsOf.j1 kj1 a0 (a0 == 10)) else (if a0 = 14 then (foretellref_PartsOf.j1 kj1 a0 (a0 == 14)) else (if a0 = 17 then (foretellref_PartsOf.j1 kj1 a0 (a0 == 17)) else (foretellref_PartsOf.j1 kj1 a0 (a0 == 18))))) = some (r1,r2):=by rw [if_neg (show ¬ (false = true) by decide)] at H;exact H
    clear H;have H:=H1;clear H1;have HC8:=zA H;clear H;go_upto_if 11 with (fail);go_cut [11] (fun v11 wc=>∃ (kq:Nat) (x11_7:Bool),v11 = .bool x11_7∧Aside0 (foretellref_PartsOf.j1 kq a0 x11_7 = some (r1,r2))∧Aside0 (kq ≤ kj1)∧Drawn0 w wc)
    case first =>
     have H:=HC8.out;clear HC8;by_cases c9:a0 = 10
     ·rw [if_pos c9] at H;have c9b0:(a0 == 10) = true:=beq_iff_eq.mpr c9;have c9b1:(a0 != 10) = false:=bne_eq_false_iff_eq.mpr c9;clear c9;(first|rw [c9b0]|(simp only [i64_w,i32_w];rw [c9b0])|skip);have H':=zA H;clear H;go_wp2;go_meet
      case rel=>exact ⟨_,((a0 == 10)),qr,H',⟨qo HJ1⟩,qt⟩
     ·rw [if_neg c9] at H;have c9b0:(a0 == 10) = false:=beq_eq_false_iff_ne.mpr c9;have c9b1:(a0 != 10) = true:=bne_iff_ne.mpr c9;(first|rw [c9b0]|(simp only [i64_w,i32_w];rw [c9b0])|skip);by_cases c10:a0 = 14
      ·rw [if_pos c10] at H;have c10b0:(a0 == 14) = true:=beq_iff_eq.mpr c10;have c10b1:(a0 != 14) = false:=bne_eq_false_iff_eq.mpr c10;clear c10;have H':=zA H;clear H;go_wp2;go_meet
       case rel=>exact ⟨_,((a0 == 14)),qr,H',⟨qo HJ1⟩,qt⟩
      ·rw [if_neg c10] at H;have c10b0:(a0 == 14) = false:=beq_eq_false_iff_ne.mpr c10;have c10b1:(a0 != 14) = true:=bne_iff_ne.mpr c10;by_cases c11:a0 = 17
       ·rw [if_pos c11] at H;have c11b0:(a0 == 17) = true:=beq_iff_eq.mpr c11;have c11b1:(a0 != 17) = false:=bne_eq_false_iff_eq.mpr c11;clear c11;have H':=zA H;clear H;go_wp2;go_meet
        case rel=>exact ⟨_,((a0 == 17)),qr,H',⟨qo HJ1⟩,qt⟩
       ·rw [if_neg c11] at H;have c11b0:(a0 == 17) = false:=beq_eq_false_iff_ne.mpr c11;have c11b1:(a0 != 17) = true:=bne_iff_ne.mpr c11;have H':=zA H;clear H;go_wp2;go_meet
        case rel=>exact ⟨_,((a0 == 18)),qr,H',⟨qo HJ1⟩,qt⟩
    case rest =>
     clear HC8;obtain ⟨kq,x11_7,rfl,HA,HJ7,⟨mc7,rfl⟩⟩:=hcut;cases kq with
     | zero=>exact absurd HA.out (by simp [foretellref_PartsOf.j1])
     | succ kj7 =>
      have H:=HA.out;clear HA;simp only [foretellref_PartsOf.j1] at H;by_cases c12:x11_7 = true
      ·subst c12;have H1:(some (1,0)) = some (r1,r2):=by rw [if_pos rfl] at H;exact H
       clear H;have H:=H1;clear H1;simp only [Option.some.injEq,Prod.mk.injEq] at H;obtain ⟨rfl,rfl⟩:=H;go_wp2;go_ret2;exact ⟨qr,qt⟩
      ·replace c12:=Bool.eq_false_iff.mpr c12;subst c12;have H1:(if a0 = 3 then (some (2,0)) else (if a0 = 4 then (some (2,0)) else (if a0 = 5 then (some (2,0)) else (if a0 = 6 then (some (2,0)) else (if a0 = 7 then (some (2,0)) else (if a0 = 8 then (some (2,0)) else (if a0 = 9 then (some (2,0)) else (if a0 = 15 then (some (2,0)) else (if a0 = 16 then (some (2,0)) else (some (0,13))))))))))) = some (r1,r2):=by rw [if_neg (show ¬ (false = true) by decide)] at H;exact H
       clear H;have H:=H1;clear H1;by_cases c13:a0 = 3
       ·rw [if_pos c13] at H;have c13b0:(a0 == 3) = true:=beq_iff_eq.mpr c13;have c13b1:(a0 != 3) = false:=bne_eq_false_iff_eq.mpr c13;clear c13;simp only [Option.some.injEq,Prod.mk.injEq] at H;obtain ⟨rfl,rfl⟩:=H;go_wp2;go_ret2;exact ⟨qr,qt⟩
       ·rw [if_neg c13] at H;have c13b0:(a0 == 3) = false:=beq_eq_false_iff_ne.mpr c13;have c13b1:(a0 != 3) = true:=bne_iff_ne.mpr c13;by_cases c14:a0 = 4
        ·rw [if_pos c14] at H;have c14b0:(a0 == 4) = true:=beq_iff_eq.mpr c14;have c14b1:(a0 != 4) = false:=bne_eq_false_iff_eq.mpr c14;clear c14;simp only [Option.some.injEq,Prod.mk.injEq] at H;obtain ⟨rfl,rfl⟩:=H;go_wp2;go_ret2;exact ⟨qr,qt⟩
        ·rw [if_neg c14] at H;have c14b0:(a0 == 4) = false:=beq_eq_false_iff_ne.mpr c14;have c14b1:(a0 != 4) = true:=bne_iff_ne.mpr c14;by_cases c15:a0 = 5
         ·rw [if_pos c15] at H;have c15b0:(a0 == 5) = true:=beq_iff_eq.mpr c15;have c15b1:(a0 != 5) = false:=bne_eq_false_iff_eq.mpr c15;clear c15;simp only [Option.some.injEq,Prod.mk.injEq] at H;obtain ⟨rfl,rfl⟩:=H;go_wp2;go_ret2;exact ⟨qr,qt⟩
         ·rw [if_neg c15] at H;have c15b0:(a0 == 5) = false:=beq_eq_false_iff_ne.mpr c15;have c15b1:(a0 != 5) = true:=bne_iff_ne.mpr c15;by_cases c16:a0 = 6
          ·rw [if_pos c16] at H;have c16b0:(a0 == 6) = true:=beq_iff_eq.mpr c16;have c16b1:(a0 != 6) = false:=bne_eq_false_iff_eq.mpr c16;clear c16;simp only [Option.some.injEq,Prod.mk.injEq] at H;obtain ⟨rfl,rfl⟩:=H;go_wp2;go_ret2;exact ⟨qr,qt⟩
          ·rw [if_neg c16] at H;have c16b0:(a0 == 6) = false:=beq_eq_false_iff_ne.mpr c16;have c16b1:(a0 != 6) = true:=bne_iff_ne.mpr c16;by_cases c17:a0 = 7
           ·rw [if_pos c17] at H;have c17b0:(a0 == 7) = true:=beq_iff_eq.mpr c17;have c17b1:(a0 != 7) = false:=bne_eq_false_iff_eq.mpr c17;clear c17;simp only [Option.some.injEq,Prod.mk.injEq] at H;obtain ⟨rfl,rfl⟩:=H;go_wp2;go_ret2;exact ⟨qr,qt⟩
           ·rw [if_neg c17] at H;have c17b0:(a0 == 7) = false:=beq_eq_false_iff_ne.mpr c17;have c17b1:(a0 != 7) = true:=bne_iff_ne.mpr c17;by_cases c18:a0 = 8
            ·rw [if_pos c18] at H;have c18b0:(a0 == 8) = true:=beq_iff_eq.mpr c18;have c18b1:(a0 != 8) = false:=bne_eq_false_iff_eq.mpr c18;clear c18;simp only [Option.some.injEq,Prod.mk.injEq] at H;obtain ⟨rfl,rfl⟩:=H;go_wp2;go_ret2;exact ⟨qr,qt⟩
            ·rw [if_neg c18] at H;have c18b0:(a0 == 8) = false:=beq_eq_false_iff_ne.mpr c18;have c18b1:(a0 != 8) = true:=bne_iff_ne.mpr c18;by_cases c19:a0 = 9
             ·rw [if_pos c19] at H;have c19b0:(a0 == 9) = true:=beq_iff_eq.mpr c19;have c19b1:(a0 != 9) = false:=bne_eq_false_iff_eq.mpr c19;clear c19;simp only [Option.some.injEq,Prod.mk.injEq] at H;obtain ⟨rfl,rfl⟩:=H;go_wp2;go_ret2;exact ⟨qr,qt⟩
             ·rw [if_neg c19] at H;have c19b0:(a0 == 9) = false:=beq_eq_false_iff_ne.mpr c19;have c19b1:(a0 != 9) = true:=bne_iff_ne.mpr c19;by_cases c20:a0 = 15
              ·rw [if_pos c20] at H;have c20b0:(a0 == 15) = true:=beq_iff_eq.mpr c20;have c20b1:(a0 != 15) = false:=bne_eq_false_iff_eq.mpr c20;clear c20;simp only [Option.some.injEq,Prod.mk.injEq] at H;obtain ⟨rfl,rfl⟩:=H;go_wp2;go_ret2;exact ⟨qr,qt⟩
              ·rw [if_neg c20] at H;have c20b0:(a0 == 15) = false:=beq_eq_false_iff_ne.mpr c20;have c20b1:(a0 != 15) = true:=bne_iff_ne.mpr c20;by_cases c21:a0 = 16
               ·rw [if_pos c21] at H;have c21b0:(a0 == 16) = true:=beq_iff_eq.mpr c21;have c21b1:(a0 != 16) = false:=bne_eq_false_iff_eq.mpr c21;clear c21;simp only [Option.some.injEq,Prod.mk.injEq] at H;obtain ⟨rfl,rfl⟩:=H;go_wp2;go_ret2;exact ⟨qr,qt⟩
               ·rw [if_neg c21] at H;have c21b0:(a0 == 16) = false:=beq_eq_false_iff_ne.mpr c21;have c21b1:(a0 != 16) = true:=bne_iff_ne.mpr c21;simp only [Option.some.injEq,Prod.mk.injEq] at H;obtain ⟨rfl,rfl⟩:=H;go_wp2;go_ret2;exact ⟨qr,qt⟩
end Go.Proofs.YtbekikafhpdehaaDoor.V
namespace Go.Proofs.YtbekikafhpdehaaDoor.V
open Go.Proofs.YtbekikafhpdehaaDoor.Al
open Option renaming bind_eq_some_iff → zb
open Go.Proofs.YtbekikafhpdehaaDoorW.PrintWords renaming gate_callee → zU
open Go.Proofs.YtbekikafhpdehaaDoor.Sq
open Go.RowKit Go.Proofs.YtbekikafhpdehaaDoorW.PrintWords Go.Proofs.YtbekikafhpdehaaDoorW.PrintLast Go.Proofs.YtbekikafhpdehaaDoorW.PrintMore
attribute [local go_sem] max2_int min2_int max_two min_two max_three min_three max_four min_four
set_option linter.unusedVariables false
set_option linter.unusedSimpArgs false
def foretellref_endOf.l0:Nat → List (S73) → Int → Int → Option (Int × Int)
 | 0,_,_,_=>none
 | k + 1,x0,x6,x7=>if x7 < (x0.length:Int) then (if 0 ≤ x7 then ((foretellref_PartsOf.f k ((rd_T73 x0 x7).f0)).bind fun bt391=>(if bt391.2 = 0 then (if (wrap64 ((wrap64 (x6 + bt391.1)) - 1)) = 0 then (some (wrap64 (x7 + 1),0)) else (foretellref_endOf.l0 k x0 (wrap64 ((wrap64 (x6 + bt391.1)) - 1)) (wrap64 (x7 + 1)))) else (some (0,bt391.2)))) else (none)) else (some (0,4))
def foretellref_endOf.f (k:Nat) (l0:List (S73)) (a1:Int):Option (Int × Int):=foretellref_endOf.l0 k l0 1 a1
theorem foretellref_endOf.mono_l:∀ k,(∀ y0 y1 y2,LeO (foretellref_endOf.l0 k y0 y1 y2) (foretellref_endOf.l0 (k + 1) y0 y1 y2))
 | 0=>fun _ _ _ r h=>by simp [foretellref_endOf.l0] at h
 | k + 1=>by
  have ih0:=foretellref_endOf.mono_l k
  ·intro y0 y1 y2
   unfold foretellref_endOf.l0
   exact qM @foretellref_PartsOf.mono
theorem foretellref_endOf.mono:∀ a0 a1 k,LeO (foretellref_endOf.f k a0 a1) (foretellref_endOf.f (k + 1) a0 a1):=by
 intro a0 a1 k;have ih0:=foretellref_endOf.mono_l k;unfold foretellref_endOf.f;exact qM @foretellref_PartsOf.mono
set_option maxHeartbeats 8000000 in
set_option maxRecDepth 100000 in
theorem foretellref_endOf.calls (k:Nat) (A0:Option Addr) (c0:Nat) (l0:List (S73)) (a1:Int) (r1:Int) (r2:Int) (w:World) (hr0:Kd.C k73 w A0 l0.length l0) (hc0:l0.length ≤ c0) (h:foretellref_endOf.f k l0 a1 = some (r1,r2)) :
  Calls Tryd.prog 84 #[.slice A0 l0.length c0,.int .i64 a1] w fun e w'=>e = .returned (.tuple #[.int .i64 r1,.int .i64 r2])∧Drawn0 w w':=by
 have HR0:=zA hr0;have HC0:=zA hc0;clear hr0 hc0;have H:(foretellref_endOf.l0 k l0 1 a1) = some (r1,r2):=h;clear h;have H':=zA H;clear H;go_enter Tryd.func84,Tryd.ntmps84;go_wp2;go_loopg [6,7] k (fun kq v6 v7 w'=>∃ (x6_1:Int) (x7_1:Int),v6 = .int .i64 x6_1∧v7 = .int .i64 x7_1∧Aside0 (foretellref_endOf.l0 kq l0 x6_1 x7_1 = some (r1,r2))∧Aside0 (kq ≤ k)∧Drawn0 w w')
 case atStart=>exact ⟨(1),(a1),qr,qr,H',⟨Nat.le_refl _⟩,qt⟩
 case round =>
  clear H';obtain ⟨x6_1,x7_1,rfl,rfl,HA,HK1,⟨m1,rfl⟩⟩:=hrel;cases gk with
  | zero=>exact absurd HA.out (by simp [foretellref_endOf.l0])
  | succ k1 =>
   have H:=HA.out;clear HA;simp only [foretellref_endOf.l0] at H;rcases qj H with ⟨c3b0,H⟩|⟨c3b0,H⟩
   ·rcases qj H with ⟨c4b0,H⟩|⟨c4,H⟩
    ·replace H:=zb.mp H;obtain ⟨⟨t391,t392⟩,A50,H⟩:=H;replace H:(if t392 = 0 then (if (wrap64 ((wrap64 (x6_1 + t391)) - 1)) = 0 then (some (wrap64 (x7_1 + 1),0)) else (foretellref_endOf.l0 k1 l0 (wrap64 ((wrap64 (x6_1 + t391)) - 1)) (wrap64 (x7_1 + 1)))) else (some (0,t392))) = some (r1,r2):=H;have A5:=zA A50;clear A50;by_cases c6:t392 = 0
     ·rw [if_pos c6] at H;have c6b0:(t392 == 0) = true:=beq_iff_eq.mpr c6;have c6b1:(t392 != 0) = false:=bne_eq_false_iff_eq.mpr c6;clear c6;by_cases c7:(wrap64 ((wrap64 (x6_1 + t391)) - 1)) = 0
      ·rw [if_pos c7] at H;have c7b0:((wrap64 ((wrap64 (x6_1 + t391)) - 1)) == 0) = true:=beq_iff_eq.mpr c7;have c7b1:((wrap64 ((wrap64 (x6_1 + t391)) - 1)) != 0) = false:=bne_eq_false_iff_eq.mpr c7;clear c7;simp only [Option.some.injEq,Prod.mk.injEq] at H;obtain ⟨rfl,rfl⟩:=H;have p390:0 ≤ (x7_1:Int):=qd;have q390:x7_1 < (l0.length:Int):=qd;obtain ⟨ad390,e390,hx390_0,hx390_1⟩:=at_T73 HR0.out x7_1 p390 q390;cases e390;replace p390:=eq_true p390;replace q390:=eq_true q390;go_wp2_with (first|((with_reducible refine zU (f:=86) rfl ?_);refine gL (some 23) Tryd.func86 #[.int .i64 ((rd_T73 l0 x7_1).f0)] ?_;(with_reducible refine (foretellref_PartsOf.calls k1 ((rd_T73 l0 x7_1).f0) t391 t392 _ A5.out).mono ?_);rintro e w' ⟨rfl,⟨nd,rfl⟩⟩;refine ⟨_,rfl,?_⟩));go_ret2;exact ⟨qr,qt⟩
      ·rw [if_neg c7] at H;have c7b0:((wrap64 ((wrap64 (x6_1 + t391)) - 1)) == 0) = false:=beq_eq_false_iff_ne.mpr c7;have c7b1:((wrap64 ((wrap64 (x6_1 + t391)) - 1)) != 0) = true:=bne_iff_ne.mpr c7;have H':=zA H;clear H;have p390:0 ≤ (x7_1:Int):=qd;have q390:x7_1 < (l0.length:Int):=qd;obtain ⟨ad390,e390,hx390_0,hx390_1⟩:=at_T73 HR0.out x7_1 p390 q390;cases e390;replace p390:=eq_true p390;replace q390:=eq_true q390;go_wp2_with (first|((with_reducible refine zU (f:=86) rfl ?_);refine gL (some 23) Tryd.func86 #[.int .i64 ((rd_T73 l0 x7_1).f0)] ?_;(with_reducible refine (foretellref_PartsOf.calls k1 ((rd_T73 l0 x7_1).f0) t391 t392 _ A5.out).mono ?_);rintro e w' ⟨rfl,⟨nd,rfl⟩⟩;refine ⟨_,rfl,?_⟩));go_roundg k1
       case measure=>have:=HK1.out;omega
       case rel=>exact ⟨(wrap64 ((wrap64 (x6_1 + t391)) - 1)),(wrap64 (x7_1 + 1)),qr,qr,H',⟨qo HK1⟩,qt⟩
     ·rw [if_neg c6] at H;have c6b0:(t392 == 0) = false:=beq_eq_false_iff_ne.mpr c6;have c6b1:(t392 != 0) = true:=bne_iff_ne.mpr c6;simp only [Option.some.injEq,Prod.mk.injEq] at H;obtain ⟨rfl,rfl⟩:=H;have p390:0 ≤ (x7_1:Int):=qd;have q390:x7_1 < (l0.length:Int):=qd;obtain ⟨ad390,e390,hx390_0,hx390_1⟩:=at_T73 HR0.out x7_1 p390 q390;cases e390;replace p390:=eq_true p390;replace q390:=eq_true q390;go_wp2_with (first|((with_reducible refine zU (f:=86) rfl ?_);refine gL (some 23) Tryd.func86 #[.int .i64 ((rd_T73 l0 x7_1).f0)] ?_;(with_reducible refine (foretellref_PartsOf.calls k1 ((rd_T73 l0 x7_1).f0) t391 t392 _ A5.out).mono ?_);rintro e w' ⟨rfl,⟨nd,rfl⟩⟩;refine ⟨_,rfl,?_⟩));go_ret2;exact ⟨qr,qt⟩
    ·exact absurd H (by simp)
   ·simp only [Option.some.injEq,Prod.mk.injEq] at H;obtain ⟨rfl,rfl⟩:=H;go_wp2;go_ret2;exact ⟨qr,qt⟩
def foretellref_EndsOf.l0:Nat → List (S73) → List Int → Int → Option (List Int × Int)
 | 0,_,_,_=>none
 | k + 1,x0,x6,x7=>if x7 < (x0.length:Int) then ((foretellref_endOf.f k x0 x7).bind fun bt395=>(if x6.length < 17592186044416 then (foretellref_EndsOf.l0 k x0 (x6 ++ [bt395.1]) (wrap64 (x7 + 1))) else (none))) else (some (x6,0))
def foretellref_EndsOf.f (k:Nat) (l0:List (S73)):Option (List Int × Int):=if (l0.length:Int) > 60 then (some (([]:List Int),1)) else ((foretellref_endOf.f k l0 0).bind fun bt393=>(if bt393.2 = 0 then (if bt393.1 < (l0.length:Int) then (some (([]:List Int),3)) else (foretellref_EndsOf.l0 k l0 ([]:List Int) 0)) else (some (([]:List Int),bt393.2))))
theorem foretellref_EndsOf.mono_l:∀ k,(∀ y0 y1 y2,LeO (foretellref_EndsOf.l0 k y0 y1 y2) (foretellref_EndsOf.l0 (k + 1) y0 y1 y2))
 | 0=>fun _ _ _ r h=>by simp [foretellref_EndsOf.l0] at h
 | k + 1=>by
  have ih0:=foretellref_EndsOf.mono_l k
  ·intro y0 y1 y2
   unfold foretellref_EndsOf.l0
   exact qM @foretellref_endOf.mono
theorem foretellref_EndsOf.mono:∀ a0 k,LeO (foretellref_EndsOf.f k a0) (foretellref_EndsOf.f (k + 1) a0):=by
 intro a0 k;have ih0:=foretellref_EndsOf.mono_l k;unfold foretellref_EndsOf.f;exact qM @foretellref_endOf.mono
set_option maxHeartbeats 8000000 in
set_option maxRecDepth 100000 in
theorem foretellref_EndsOf.calls (k:Nat) (A0:Option Addr) (c0:Nat) (l0:List (S73)) (r1:List Int) (r2:Int) (w:World) (hr0:Kd.C k73 w A0 l0.length l0) (hc0:l0.length ≤ c0) (h:foretellref_EndsOf.f k l0 = some (r1,r2)) :
  Calls Tryd.prog 54 #[.slice A0 l0.length c0] w fun e w'=>∃ v0_:Value,e = .returned (.tuple #[v0_,.int .i64 r2])∧Kd.R (Kd.int .i64) 3 w' w.heap.size (fun _=>True) v0_ r1∧Below w.heap.size w w':=by
 have HR0:=zA hr0;have HC0:=zA hc0;clear hr0 hc0;have HB:=zA (Below.refl w.heap.size w);have H:(if (l0.length:Int) > 60 then (some (([]:List Int),1)) else ((foretellref_endOf.f k l0 0).bind fun bt393=>(if bt393.2 = 0 then (if bt393.1 < (l0.length:Int) then (some (([]:List Int),3)) else (foretellref_EndsOf.l0 k l0 ([]:List Int) 0)) else (some (([]:List Int),bt393.2))))) = some (r1,r2):=h;clear h;by_cases c2:(l0.length:Int) > 60
 ·rw [if_pos c2] at H;have c2b0:decide (60 < (l0.length:Int)) = true:=zQ c2;have c2b1:decide (60 < l0.length) = true:=zQ (by omega);clear c2;simp only [Option.some.injEq,Prod.mk.injEq] at H;obtain ⟨rfl,rfl⟩:=H;go_enter Tryd.func54,Tryd.ntmps54;go_wp2;go_ret2;exact ⟨_,qe,ql,qb⟩
 ·rw [if_neg c2] at H;have c2b0:decide (60 < (l0.length:Int)) = false:=zR c2;have c2b1:decide (60 < l0.length) = false:=zR (by omega);clear c2;replace H:=zb.mp H;obtain ⟨⟨t393,t394⟩,A30,H⟩:=H;replace H:(if t394 = 0 then (if t393 < (l0.length:Int) then (some (([]:List Int),3)) else (foretellref_EndsOf.l0 k l0 ([]:List Int) 0)) else (some (([]:List Int),t394))) = some (r1,r2):=H;have A3:=zA A30;clear A30;by_cases c4:t394 = 0
  ·rw [if_pos c4] at H;have c4b0:(t394 == 0) = true:=beq_iff_eq.mpr c4;have c4b1:(t394 != 0) = false:=bne_eq_false_iff_eq.mpr c4;clear c4;rcases qj H with ⟨c5b0,H⟩|⟨c5b0,H⟩
   ·simp only [Option.some.injEq,Prod.mk.injEq] at H;obtain ⟨rfl,rfl⟩:=H;go_enter Tryd.func54,Tryd.ntmps54;go_wp2_with (first|((with_reducible refine zU (f:=84) rfl ?_);refine gL (some 15) Tryd.func84 #[.slice A0 l0.length c0,.int .i64 0] ?_;(with_reducible refine (foretellref_endOf.calls k _ _ l0 0 t393 t394 _ (qu HR0.out) HC0.out A3.out).mono ?_);rintro e w' ⟨rfl,⟨nd,rfl⟩⟩;refine ⟨_,rfl,?_⟩));go_ret2;exact ⟨_,qe,ql,qb⟩
   ·have H':=zA H;clear H;go_enter Tryd.func54,Tryd.ntmps54;go_wp2_with (first|((with_reducible refine zU (f:=84) rfl ?_);refine gL (some 15) Tryd.func84 #[.slice A0 l0.length c0,.int .i64 0] ?_;(with_reducible refine (foretellref_endOf.calls k _ _ l0 0 t393 t394 _ (qu HR0.out) HC0.out A3.out).mono ?_);rintro e w' ⟨rfl,⟨nd,rfl⟩⟩;refine ⟨_,rfl,?_⟩));go_loopg [6,7] k (fun kq v6 v7 w'=>∃ (x6_1:List Int) (x7_1:Int),v7 = .int .i64 x7_1∧Aside0 (foretellref_EndsOf.l0 kq l0 x6_1 x7_1 = some (r1,r2))∧Aside0 (kq ≤ k)∧Aside0 (Kd.R (Kd.int .i64) 3 w' w.heap.size (fun _=>True) v6 x6_1)∧Aside0 (Below w.heap.size w w'))
    case atStart=>exact ⟨(([]:List Int)),(0),qr,H',⟨Nat.le_refl _⟩,⟨ql⟩,⟨qb⟩⟩
    case round =>
     clear H';obtain ⟨x6_1,x7_1,rfl,HA,HK1,HO_6,HB⟩:=hrel;cases gk with
     | zero=>exact absurd HA.out (by simp [foretellref_EndsOf.l0])
     | succ k1 =>
      have H:=HA.out;clear HA;simp only [foretellref_EndsOf.l0] at H;rcases qj H with ⟨c6b0,H⟩|⟨c6b0,H⟩
      ·replace H:=zb.mp H;obtain ⟨⟨t395,t396⟩,A70,H⟩:=H;replace H:(if x6_1.length < 17592186044416 then (foretellref_EndsOf.l0 k1 l0 (x6_1 ++ [t395]) (wrap64 (x7_1 + 1))) else (none)) = some (r1,r2):=H;have A7:=zA A70;clear A70;by_cases c8:x6_1.length < 17592186044416
       ·rw [if_pos c8] at H;have LMc8:=zA c8;clear c8;obtain ⟨y397,hy397⟩:∃ y_:List Int,y_ = (x6_1 ++ [t395]):=⟨_,rfl⟩;replace H:(foretellref_EndsOf.l0 k1 l0 y397 (wrap64 (x7_1 + 1))) = some (r1,r2):=by first|(rw [hy397];with_reducible exact H)|(have H2_:=(Option.bind_some _ _).symm.trans H;rw [hy397];with_reducible exact H2_)|(have H2_:=(Option.bind_some _ _).symm.trans H;with_reducible exact H2_)|with_reducible exact H|(rw [hy397];exact H)|exact H
        have Ny397:=zA hy397;clear hy397;have H':=zA H;clear H;go_wp2_with (first|((with_reducible refine zU (f:=84) rfl ?_);refine gL (some 34) Tryd.func84 #[.slice A0 l0.length c0,.int .i64 x7_1] ?_;(with_reducible refine (foretellref_endOf.calls k1 _ _ l0 x7_1 t395 t396 _ (qc HR0) HC0.out A7.out).mono ?_);rintro e w' ⟨rfl,⟨nd,rfl⟩⟩;refine ⟨_,rfl,?_⟩)|((with_reducible refine gate_builtin (b:=.append) (xs:=#[.tmp 37,.tmp 39]) rfl ?_);at_builtin;refine Kd.R_append (Kd.int .i64) (w0:=w) w.heap.size rfl (.tmp 37) (.tmp 39) 32 3 (.int .i64 0) 8 rfl Tryd.underlying32 info3 rfl (by decide) (by omega) u6 x6_1 t395 [.int .i64 t395] (fun _=>True) (fun _=>False) rfl rfl rfl (fun _ hk=>hk.elim) (fun _ _=>trivial) (qR HO_6) qb qs (qo LMc8) ?_;intro v398 w9 ho hb hg hat;rw [← Ny397.out] at ho;replace HB:=zA (hb);have HO399:=zA (ho);clear HO_6;clear ho hb hg hat));go_roundg k1
        case measure=>have:=HK1.out;omega
        case rel=>exact ⟨(y397),(wrap64 (x7_1 + 1)),qr,H',⟨qo HK1⟩,⟨qR HO399⟩,⟨qb⟩⟩
       ·rw [if_neg c8] at H;exact absurd H (by simp)
      ·simp only [Option.some.injEq,Prod.mk.injEq] at H;obtain ⟨rfl,rfl⟩:=H;go_wp2;go_ret2;exact ⟨_,qe,qR HO_6,qb⟩
  ·rw [if_neg c4] at H;have c4b0:(t394 == 0) = false:=beq_eq_false_iff_ne.mpr c4;have c4b1:(t394 != 0) = true:=bne_iff_ne.mpr c4;simp only [Option.some.injEq,Prod.mk.injEq] at H;obtain ⟨rfl,rfl⟩:=H;go_enter Tryd.func54,Tryd.ntmps54;go_wp2_with (first|((with_reducible refine zU (f:=84) rfl ?_);refine gL (some 15) Tryd.func84 #[.slice A0 l0.length c0,.int .i64 0] ?_;(with_reducible refine (foretellref_endOf.calls k _ _ l0 0 t393 t394 _ (qu HR0.out) HC0.out A3.out).mono ?_);rintro e w' ⟨rfl,⟨nd,rfl⟩⟩;refine ⟨_,rfl,?_⟩));go_ret2;exact ⟨_,qe,ql,qb⟩
def foretellref_makesTruth.f (a0:Int):Option (Bool):=(foretellref_In.f a0 6 12).bind fun t400=>(some t400)
set_option maxHeartbeats 8000000 in
set_option maxRecDepth 100000 in
theorem foretellref_makesTruth.calls (a0:Int) (r:Bool) (w:World) (h:foretellref_makesTruth.f a0 = some r) :
  Calls Tryd.prog 56 #[.int .i64 a0] w fun e w'=>e = .returned (.bool r)∧Drawn0 w w':=by
 have H:((foretellref_In.f a0 6 12).bind fun t400=>(some t400)) = some r:=h;clear h;replace H:=zb.mp H;obtain ⟨t400,A20,H⟩:=H;replace H:(some t400) = some r:=H;have A2:=zA A20;clear A20;obtain rfl:=Option.some.inj H;go_enter Tryd.func56,Tryd.ntmps56;go_wp2_with (first|((with_reducible refine zU (f:=24) rfl ?_);refine gL (some 4) Tryd.func24 #[.int .i64 a0,.int .i64 6,.int .i64 12] ?_;(with_reducible refine (foretellref_In.calls a0 6 12 t400 _ A2.out).mono ?_);rintro e w' ⟨rfl,⟨nd,rfl⟩⟩;refine ⟨_,rfl,?_⟩));go_ret;exact ⟨qr,qt⟩
end Go.Proofs.YtbekikafhpdehaaDoor.V
namespace Go.Proofs.YtbekikafhpdehaaDoor.V
open Go.Proofs.YtbekikafhpdehaaDoor.Al
open Go.Proofs.YtbekikafhpdehaaDoorW.PrintWords
open Go.Proofs.YtbekikafhpdehaaDoor.Sq
open Go.RowKit Go.Proofs.YtbekikafhpdehaaDoorW.PrintWords Go.Proofs.YtbekikafhpdehaaDoorW.PrintLast Go.Proofs.YtbekikafhpdehaaDoorW.PrintMore
attribute [local go_sem] max2_int min2_int max_two min_two max_three min_three max_four min_four
set_option linter.unusedVariables false
set_option linter.unusedSimpArgs false
def foretellref_Ops.l0:Nat → List (S73) → Int → List (S73) → Int → Option ((List (S73)))
 | 0,_,_,_,_=>none
 | k + 1,x0,x2,x7,x8=>if x8 < x2 then (if 0 ≤ x8 then (if x8 < (x0.length:Int) then (if x7.length < 8796093022208 then (foretellref_Ops.l0 k x0 x2 (x7 ++ [(⟨(rd_T73 x0 x8).f0,(rd_T73 x0 x8).f1⟩:S73)]) (wrap64 (x8 + 1))) else (none)) else (none)) else (none)) else (some x7)
def foretellref_Ops.f (k:Nat) (l0:List (S73)) (a1:Int) (a2:Int):Option ((List (S73))):=foretellref_Ops.l0 k l0 a2 ([]:List (S73)) a1
theorem foretellref_Ops.mono_l:∀ k,(∀ y0 y1 y2 y3,LeO (foretellref_Ops.l0 k y0 y1 y2 y3) (foretellref_Ops.l0 (k + 1) y0 y1 y2 y3))
 | 0=>fun _ _ _ _ r h=>by simp [foretellref_Ops.l0] at h
 | k + 1=>by
  have ih0:=foretellref_Ops.mono_l k
  ·intro y0 y1 y2 y3
   unfold foretellref_Ops.l0
   exact qL
theorem foretellref_Ops.mono:∀ a0 a1 a2 k,LeO (foretellref_Ops.f k a0 a1 a2) (foretellref_Ops.f (k + 1) a0 a1 a2):=by
 intro a0 a1 a2 k;have ih0:=foretellref_Ops.mono_l k;unfold foretellref_Ops.f;exact qL
set_option maxHeartbeats 8000000 in
set_option maxRecDepth 100000 in
theorem foretellref_Ops.calls (k:Nat) (A0:Option Addr) (c0:Nat) (l0:List (S73)) (a1:Int) (a2:Int) (r:List (S73)) (w:World) (hr0:Kd.C k73 w A0 l0.length l0) (hc0:l0.length ≤ c0) (h:foretellref_Ops.f k l0 a1 a2 = some r) :
  Calls Tryd.prog 87 #[.slice A0 l0.length c0,.int .i64 a1,.int .i64 a2] w fun e w'=>∃ v0_:Value,e = .returned (v0_)∧Kd.R k73 73 w' w.heap.size (fun _=>True) v0_ r∧Below w.heap.size w w':=by
 have hu73:=Tryd.underlying73;have HR0:=zA hr0;have HC0:=zA hc0;clear hr0 hc0;have HB:=zA (Below.refl w.heap.size w);have H:(foretellref_Ops.l0 k l0 a2 ([]:List (S73)) a1) = some r:=h;clear h;have H':=zA H;clear H;go_enter Tryd.func87,Tryd.ntmps87;go_wp2;go_loopg [7,8] k (fun kq v7 v8 w'=>∃ (x7_1:List (S73)) (x8_1:Int),v8 = .int .i64 x8_1∧Aside0 (foretellref_Ops.l0 kq l0 a2 x7_1 x8_1 = some r)∧Aside0 (kq ≤ k)∧Aside0 (Kd.R k73 73 w' w.heap.size (fun _=>True) v7 x7_1)∧Aside0 (Below w.heap.size w w'))
 case atStart=>exact ⟨(([]:List (S73))),(a1),qr,H',⟨Nat.le_refl _⟩,⟨ql⟩,⟨qb⟩⟩
 case round =>
  clear H';obtain ⟨x7_1,x8_1,rfl,HA,HK1,HO_7,HB⟩:=hrel;cases gk with
  | zero=>exact absurd HA.out (by simp [foretellref_Ops.l0])
  | succ k1 =>
   have H:=HA.out;clear HA;simp only [foretellref_Ops.l0] at H;rcases qj H with ⟨c4b0,H⟩|⟨c4b0,H⟩
   ·rcases qj H with ⟨c5b0,H⟩|⟨c5,H⟩
    ·rcases qj H with ⟨c6b0,H⟩|⟨c6,H⟩
     ·by_cases c7:x7_1.length < 8796093022208
      ·rw [if_pos c7] at H;have LMc7:=zA c7;clear c7;obtain ⟨y402,hy402⟩:∃ y_:List (S73),y_ = (x7_1 ++ [(⟨(rd_T73 l0 x8_1).f0,(rd_T73 l0 x8_1).f1⟩:S73)]):=⟨_,rfl⟩;replace H:(foretellref_Ops.l0 k1 l0 a2 y402 (wrap64 (x8_1 + 1))) = some r:=by first|(rw [hy402];with_reducible exact H)|(have H2_:=(Option.bind_some _ _).symm.trans H;rw [hy402];with_reducible exact H2_)|(have H2_:=(Option.bind_some _ _).symm.trans H;with_reducible exact H2_)|with_reducible exact H|(rw [hy402];exact H)|exact H
       have Ny402:=zA hy402;clear hy402;have H':=zA H;clear H;have p401:0 ≤ (x8_1:Int):=qd;have q401:x8_1 < (l0.length:Int):=qd;obtain ⟨ad401,e401,hx401_0,hx401_1⟩:=at_T73 HR0.out x8_1 p401 q401;cases e401;replace hx401_0:=qy HB hx401_0;replace hx401_1:=qy HB hx401_1;replace p401:=eq_true p401;replace q401:=eq_true q401;go_wp2_with (first|((with_reducible refine gate_builtin (b:=.append) (xs:=#[.tmp 15,.tmp 20]) rfl ?_);at_builtin;refine Kd.R_append k73 (w0:=w) w.heap.size rfl (.tmp 15) (.tmp 20) 45 73 (.agg #[(.int .i64 0),(.int .i64 0)]) 16 rfl Tryd.underlying45 info73 rfl (by decide) (by omega) u7 x7_1 (⟨(rd_T73 l0 x8_1).f0,(rd_T73 l0 x8_1).f1⟩:S73) [.int .i64 ((rd_T73 l0 x8_1).f0),.int .i64 ((rd_T73 l0 x8_1).f1)] (fun _=>True) (fun _=>False) rfl rfl (k73_mkM _ _ _ (⟨(rd_T73 l0 x8_1).f0,(rd_T73 l0 x8_1).f1⟩:S73)) (fun _ hk=>hk.elim) (fun _ _=>trivial) (qR HO_7) qb qs (qo LMc7) ?_;intro v403 w8 ho hb hg hat;rw [← Ny402.out] at ho;replace HB:=zA (hb);have HO404:=zA (ho);clear HO_7;clear ho hb hg hat));go_roundg k1
       case measure=>have:=HK1.out;omega
       case rel=>exact ⟨(y402),(wrap64 (x8_1 + 1)),qr,H',⟨qo HK1⟩,⟨qR HO404⟩,⟨qb⟩⟩
      ·rw [if_neg c7] at H;exact absurd H (by simp)
     ·exact absurd H (by simp)
    ·exact absurd H (by simp)
   ·obtain rfl:=Option.some.inj H;go_wp2;go_ret;exact ⟨_,qe,qR HO_7,qb⟩
end Go.Proofs.YtbekikafhpdehaaDoor.V
