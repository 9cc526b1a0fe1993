import Derived.Test.YtbekikafhpdehaaDoorKVerdictRunsG9
import Derived.Test.YtbekikafhpdehaaDoorKVerdictRunsG16
namespace Go.Proofs.YtbekikafhpdehaaDoor.V
open Go.Proofs.YtbekikafhpdehaaDoor.Al
open Option renaming bind_eq_some_iff → zb
open Go.Proofs.YtbekikafhpdehaaDoorW.PrintWords renaming below_step → zH, blk_frozen → zJ, blk_alloc → zK, blk_drewN → zL, blk_drew → zM, blk_below → zN, blk_put → zO, gate_callee → zU, gate_dst → zV
open Go.Proofs.YtbekikafhpdehaaDoor.Sq
open Go.RowKit Go.Proofs.YtbekikafhpdehaaDoorW.PrintWords Go.Proofs.YtbekikafhpdehaaDoorW.PrintLast Go.Proofs.YtbekikafhpdehaaDoorW.PrintMore
attribute [local go_sem] max2_int min2_int max_two min_two max_three min_three max_four min_four
set_option linter.unusedVariables false
set_option linter.unusedSimpArgs false
mutual
def expr_Check.j0:Nat → List (S73) → Int → Bool → Option (Bool × Int)
 | 0,_,_,_=>none
 | k + 1,x0,x1,x28=>if x28 = true then (some (false,2)) else ((polish_Ends.f x0).bind fun bt132=>(if bt132.2 = 0 then (expr_Check.l0 k x0 x1 bt132.1 x0 (x0.length:Int) 0) else (some (false,bt132.2))))
def expr_Check.l0:Nat → List (S73) → Int → List Int → List (S73) → Int → Int → Option (Bool × Int)
 | 0,_,_,_,_,_,_=>none
 | k + 1,x0,x1,x6,x37,x38,x39=>if x39 < x38 then (if 0 ≤ x39 then (if x39 < (x37.length:Int) then ((expr_op.f k ((rd_T73 x37 x39).f0) ((rd_T73 x37 x39).f1) x1).bind fun t138=>(if t138 = 0 then (expr_Check.l0 k x0 x1 x6 x37 x38 (wrap64 (x39 + 1))) else (some (false,t138)))) else (none)) else (none)) else (expr_Check.l1 k x0 x6 x0 (x0.length:Int) 0)
def expr_Check.l1:Nat → List (S73) → List Int → List (S73) → Int → Int → Option (Bool × Int)
 | 0,_,_,_,_,_=>none
 | k + 1,x0,x6,x50,x51,x52=>if x52 < x51 then (if 0 ≤ x52 then (if x52 < (x50.length:Int) then ((expr_truth.f k ((rd_T73 x50 x52).f0)).bind fun bt145=>(expr_Check.l2 k x0 x6 x52 bt145.2.1 (wrap64 (x52 + 1)) x50 x51 x52)) else (none)) else (none)) else (if 0 < (x0.length:Int) then ((expr_truth.f k ((rd_T73 x0 0).f0)).bind fun bt140=>(some (bt140.1,0))) else (none))
def expr_Check.l2:Nat → List (S73) → List Int → Int → Bool → Int → List (S73) → Int → Int → Option (Bool × Int)
 | 0,_,_,_,_,_,_,_,_=>none
 | k + 1,x0,x6,x11,x14,x16,x50,x51,x52=>if 0 ≤ x11 then (if x11 < (x6.length:Int) then (if x16 < (rd x6 x11) then (if 0 ≤ x16 then (if x16 < (x0.length:Int) then ((expr_truth.f k ((rd_T73 x0 x16).f0)).bind fun bt150=>(if (bt150.1 != x14) = true then (some (false,5)) else (if x16 < (x6.length:Int) then (expr_Check.l2 k x0 x6 x11 x14 (rd x6 x16) x50 x51 x52) else (none)))) else (none)) else (none)) else (expr_Check.l1 k x0 x6 x50 x51 (wrap64 (x52 + 1)))) else (none)) else (none)
end
def expr_Check.f (k:Nat) (l0:List (S73)) (a1:Int):Option (Bool × Int):=if a1 < 0 then (expr_Check.j0 k l0 a1 true) else (expr_Check.j0 k l0 a1 (decide (a1 > 6)))
theorem expr_Check.mono_l:∀ k,(∀ y0 y1 y2,LeO (expr_Check.j0 k y0 y1 y2) (expr_Check.j0 (k + 1) y0 y1 y2))∧(∀ y0 y1 y2 y3 y4 y5,LeO (expr_Check.l0 k y0 y1 y2 y3 y4 y5) (expr_Check.l0 (k + 1) y0 y1 y2 y3 y4 y5))∧(∀ y0 y1 y2 y3 y4,LeO (expr_Check.l1 k y0 y1 y2 y3 y4) (expr_Check.l1 (k + 1) y0 y1 y2 y3 y4))∧(∀ y0 y1 y2 y3 y4 y5 y6 y7,LeO (expr_Check.l2 k y0 y1 y2 y3 y4 y5 y6 y7) (expr_Check.l2 (k + 1) y0 y1 y2 y3 y4 y5 y6 y7))
 | 0=>⟨fun _ _ _ r h=>by simp [expr_Check.j0] at h,fun _ _ _ _ _ _ r h=>by simp [expr_Check.l0] at h,fun _ _ _ _ _ r h=>by simp [expr_Check.l1] at h,fun _ _ _ _ _ _ _ _ r h=>by simp [expr_Check.l2] at h⟩
 | k + 1=>by
  obtain ⟨ih0,ih1,ih2,ih3⟩:=expr_Check.mono_l k
  refine ⟨?_,?_,?_,?_⟩
  ·intro y0 y1 y2
   unfold expr_Check.j0
   exact qM (And.intro @expr_op.mono @expr_truth.mono)
  ·intro y0 y1 y2 y3 y4 y5
   unfold expr_Check.l0
   exact qM (And.intro @expr_op.mono @expr_truth.mono)
  ·intro y0 y1 y2 y3 y4
   unfold expr_Check.l1
   exact qM (And.intro @expr_op.mono @expr_truth.mono)
  ·intro y0 y1 y2 y3 y4 y5 y6 y7
   unfold expr_Check.l2
   exact qM (And.intro @expr_op.mono @expr_truth.mono)
theorem expr_Check.mono:∀ a0 a1 k,LeO (expr_Check.f k a0 a1) (expr_Check.f (k + 1) a0 a1):=by
 intro a0 a1 k;obtain ⟨ih0,ih1,ih2,ih3⟩:=expr_Check.mono_l k;unfold expr_Check.f;exact qM (And.intro @expr_op.mono @expr_truth.mono)
set_option maxHeartbeats 8000000 in
set_option maxRecDepth 100000 in
theorem expr_Check.calls (k:Nat) (A0:Option Addr) (c0:Nat) (l0:List (S73)) (a1:Int) (r1:Bool) (r2:Int) (w:World) (hr0:Kd.C k73 w A0 l0.length l0) (hc0:l0.length ≤ c0) (hL:LaidG w) (h:expr_Check.f k l0 a1 = some (r1,r2)) :
  Calls Tryd.prog 48 #[.slice A0 l0.length c0,.int .i64 a1] w fun e w'=>e = .returned (.tuple #[.bool r1,.int .i64 r2])∧Below w.heap.size w w':=by
 have HLd:=zA hL;clear hL;have hu73:=Tryd.underlying73;have HR0:=zA hr0;have HC0:=zA hc0;clear hr0 hc0;have HB:=zA (Below.refl w.heap.size w);have H:(if a1 < 0 then (expr_Check.j0 k l0 a1 true) else (expr_Check.j0 k l0 a1 (decide (a1 > 6)))) = some (r1,r2):=h;clear h;have HC3:=zA H;clear H;go_enter Tryd.func48,Tryd.ntmps48;go_upto_region 1 with (fail);go_cut [28] (fun v28 wc=>∃ (kq:Nat) (x28_2:Bool),v28 = .bool x28_2∧Aside0 (expr_Check.j0 kq l0 a1 x28_2 = some (r1,r2))∧Aside0 (kq ≤ k)∧Aside0 (Below w.heap.size w wc))
 case first =>
  have H:=HC3.out;clear HC3;rcases qj H with ⟨c4b0,H⟩|⟨c4b0,H⟩
  ·(first|rw [c4b0]|(simp only [i64_w,i32_w];rw [c4b0])|skip);have H':=zA H;clear H;go_wp2;go_meet
   case rel=>exact ⟨_,(true),qr,H',⟨qm⟩,⟨qb⟩⟩
  ·(first|rw [c4b0]|(simp only [i64_w,i32_w];rw [c4b0])|skip);have H':=zA H;clear H;go_wp2;go_meet
   case rel=>exact ⟨_,(decide (a1 > 6)),qr,H',⟨qm⟩,⟨qb⟩⟩
 case rest =>
  clear HC3;obtain ⟨kq,x28_2,rfl,HA,HJ2,HB⟩:=hcut;cases kq with
  | zero=>exact absurd HA.out (by simp [expr_Check.j0])
  | succ kj2 =>
   have H:=HA.out;clear HA;simp only [expr_Check.j0] at H;by_cases c5:x28_2 = true
   ·subst c5;have H1:(some (false,2)) = some (r1,r2):=by rw [if_pos rfl] at H;exact H
    clear H;have H:=H1;clear H1;simp only [Option.some.injEq,Prod.mk.injEq] at H;obtain ⟨rfl,rfl⟩:=H;go_wp2;go_ret2;exact ⟨qe,qb⟩
   ·replace c5:=Bool.eq_false_iff.mpr c5;subst c5;have H1:((polish_Ends.f l0).bind fun bt132=>(if bt132.2 = 0 then (expr_Check.l0 kj2 l0 a1 bt132.1 l0 (l0.length:Int) 0) else (some (false,bt132.2)))) = some (r1,r2):=by rw [if_neg (show ¬ (false = true) by decide)] at H;exact H
    clear H;have H:=H1;clear H1;replace H:=zb.mp H;obtain ⟨⟨t132,t133⟩,A60,H⟩:=H;replace H:(if t133 = 0 then (expr_Check.l0 kj2 l0 a1 t132 l0 (l0.length:Int) 0) else (some (false,t133))) = some (r1,r2):=H;have A6:=zA A60;clear A60;by_cases c7:t133 = 0
    ·rw [if_pos c7] at H;have c7b0:(t133 == 0) = true:=beq_iff_eq.mpr c7;have c7b1:(t133 != 0) = false:=bne_eq_false_iff_eq.mpr c7;clear c7;have H':=zA H;clear H;go_wp2_with (first|((with_reducible refine zU (f:=71) rfl ?_);refine gL (some 31) Tryd.func71 #[.slice A0 l0.length c0] ?_;(with_reducible refine (polish_Ends.calls _ _ l0 t132 t133 _ (qc HR0) HC0.out qD A6.out).mono ?_);rintro e w8 ⟨v134,rfl,ho0,hb⟩;refine ⟨_,rfl,?_⟩;have HO135:=zA (Kd.R_lower ho0 qs);replace HB:=zA (zH qb hb);clear ho0 hb));go_loopg [39] kj2 (fun kq v39 w'=>∃ (x39_2:Int),v39 = .int .i64 x39_2∧Aside0 (expr_Check.l0 kq l0 a1 t132 l0 (l0.length:Int) x39_2 = some (r1,r2))∧Aside0 (kq ≤ kj2)∧Aside0 (Kd.R (Kd.int .i64) 3 w' w.heap.size (fun _=>True) v134 t132)∧Aside0 (Below w.heap.size w w'))
     case atStart=>exact ⟨(0),qr,H',⟨Nat.le_refl _⟩,⟨qR HO135⟩,⟨qb⟩⟩
     case round =>
      clear H';obtain ⟨x39_2,rfl,HA,HK2,HO_6,HB⟩:=hrel;cases gk with
      | zero=>exact absurd HA.out (by simp [expr_Check.l0])
      | succ k2 =>
       have H:=HA.out;clear HA;simp only [expr_Check.l0] at H;rcases qj H with ⟨c9b0,H⟩|⟨c9b0,H⟩
       ·rcases qj H with ⟨c10b0,H⟩|⟨c10,H⟩
        ·rcases qj H with ⟨c11b0,H⟩|⟨c11,H⟩
         ·replace H:=zb.mp H;obtain ⟨t138,A120,H⟩:=H;replace H:(if t138 = 0 then (expr_Check.l0 k2 l0 a1 t132 l0 (l0.length:Int) (wrap64 (x39_2 + 1))) else (some (false,t138))) = some (r1,r2):=H;have A12:=zA A120;clear A120;by_cases c13:t138 = 0
          ·rw [if_pos c13] at H;have c13b0:(t138 == 0) = true:=beq_iff_eq.mpr c13;have c13b1:(t138 != 0) = false:=bne_eq_false_iff_eq.mpr c13;clear c13;have H':=zA H;clear H;have p136:0 ≤ (x39_2:Int):=qd;have q136:x39_2 < (l0.length:Int):=qd;obtain ⟨ad136,e136,hx136_0,hx136_1⟩:=at_T73 HR0.out x39_2 p136 q136;cases e136;replace hx136_0:=qy HB hx136_0;replace hx136_1:=qy HB hx136_1;replace p136:=eq_true p136;replace q136:=eq_true q136;go_wp2_with (first|((with_reducible refine zV (N:=9) rfl ?_);refine bq 9 (cs:=#[.int .i64 0,.int .i64 0]) (t:=73) ?_;intro gb137 hg w14 hbox hb;replace HO_6:=zA (Kd.R_below (qR HO_6) hb);have BK137:=zA (hbox);have GW137:=zA (qg hg);have GE137:=zA (qg hg);replace HB:=zA (zH qb hb);clear hb hbox hg;have hcz15_0:=qx BK137 0;have hcz15_1:=qx BK137 1;have hfz15_0:=zJ BK137.out 0;have hfz15_1:=zJ BK137.out 1)|((with_reducible refine zU (f:=72) rfl ?_);refine gL (some 45) Tryd.func72 #[.agg #[.int .i64 ((rd_T73 l0 x39_2).f0),.int .i64 ((rd_T73 l0 x39_2).f1)],.int .i64 a1] ?_;(with_reducible refine (expr_op.calls k2 ((rd_T73 l0 x39_2).f0) ((rd_T73 l0 x39_2).f1) a1 t138 _ A12.out).mono ?_);rintro e w16 ⟨rfl,hb⟩;refine ⟨_,rfl,?_⟩;replace HO_6:=zA (Kd.R_below (by (with_reducible repeat (first|apply Kd.R_alloc|apply Kd.R_drewN|apply Kd.R_drew));exact (Kd.R_mono (Kd.R_far (p:=⟨gb137,1,none⟩) (Kd.R_far (p:=⟨gb137,0,none⟩) (Kd.R_types HO_6.out BK137.out (by decide)) (fun _ hk=>hk.2) (.int .i64 ((rd_T73 l0 x39_2).f0))) (fun _ hk=>hk.2) (.int .i64 ((rd_T73 l0 x39_2).f1))) (fun _ h_=>h_.1))) hb);replace BK137:=zA (zN (g:=gb137) (o:=.cells #[.int .i64 ((rd_T73 l0 x39_2).f0),.int .i64 ((rd_T73 l0 x39_2).f1)] 73 (0,0)) (by (with_reducible repeat (first|refine zL ?_ _|refine zM ?_|refine zK ?_ _));refine zO (cs:=#[.int .i64 ((rd_T73 l0 x39_2).f0),.int .i64 0]) ?_ 1 _ rfl;(with_reducible repeat (first|refine zL ?_ _|refine zM ?_|refine zK ?_ _));refine zO (cs:=#[.int .i64 0,.int .i64 0]) ?_ 0 _ rfl;(with_reducible repeat (first|refine zL ?_ _|refine zM ?_|refine zK ?_ _));exact BK137.out) hb);replace HB:=zA (zH qb hb);clear hb));go_roundg k2
           case measure=>have:=HJ2.out;have:=HK2.out;omega
           case rel=>exact ⟨(wrap64 (x39_2 + 1)),qr,H',⟨qp HJ2 HK2⟩,⟨qR HO_6⟩,⟨qb⟩⟩
          ·rw [if_neg c13] at H;have c13b0:(t138 == 0) = false:=beq_eq_false_iff_ne.mpr c13;have c13b1:(t138 != 0) = true:=bne_iff_ne.mpr c13;simp only [Option.some.injEq,Prod.mk.injEq] at H;obtain ⟨rfl,rfl⟩:=H;have p136:0 ≤ (x39_2:Int):=qd;have q136:x39_2 < (l0.length:Int):=qd;obtain ⟨ad136,e136,hx136_0,hx136_1⟩:=at_T73 HR0.out x39_2 p136 q136;cases e136;replace hx136_0:=qy HB hx136_0;replace hx136_1:=qy HB hx136_1;replace p136:=eq_true p136;replace q136:=eq_true q136;go_wp2_with (first|((with_reducible refine zV (N:=9) rfl ?_);refine bq 9 (cs:=#[.int .i64 0,.int .i64 0]) (t:=73) ?_;intro gb137 hg w17 hbox hb;replace HO_6:=zA (Kd.R_below (qR HO_6) hb);have BK137:=zA (hbox);have GW137:=zA (qg hg);have GE137:=zA (qg hg);replace HB:=zA (zH qb hb);clear hb hbox hg;have hcz18_0:=qx BK137 0;have hcz18_1:=qx BK137 1;have hfz18_0:=zJ BK137.out 0;have hfz18_1:=zJ BK137.out 1)|((with_reducible refine zU (f:=72) rfl ?_);refine gL (some 45) Tryd.func72 #[.agg #[.int .i64 ((rd_T73 l0 x39_2).f0),.int .i64 ((rd_T73 l0 x39_2).f1)],.int .i64 a1] ?_;(with_reducible refine (expr_op.calls k2 ((rd_T73 l0 x39_2).f0) ((rd_T73 l0 x39_2).f1) a1 t138 _ A12.out).mono ?_);rintro e w19 ⟨rfl,hb⟩;refine ⟨_,rfl,?_⟩;replace HO_6:=zA (Kd.R_below (by (with_reducible repeat (first|apply Kd.R_alloc|apply Kd.R_drewN|apply Kd.R_drew));exact (Kd.R_mono (Kd.R_far (p:=⟨gb137,1,none⟩) (Kd.R_far (p:=⟨gb137,0,none⟩) (Kd.R_types HO_6.out BK137.out (by decide)) (fun _ hk=>hk.2) (.int .i64 ((rd_T73 l0 x39_2).f0))) (fun _ hk=>hk.2) (.int .i64 ((rd_T73 l0 x39_2).f1))) (fun _ h_=>h_.1))) hb);replace BK137:=zA (zN (g:=gb137) (o:=.cells #[.int .i64 ((rd_T73 l0 x39_2).f0),.int .i64 ((rd_T73 l0 x39_2).f1)] 73 (0,0)) (by (with_reducible repeat (first|refine zL ?_ _|refine zM ?_|refine zK ?_ _));refine zO (cs:=#[.int .i64 ((rd_T73 l0 x39_2).f0),.int .i64 0]) ?_ 1 _ rfl;(with_reducible repeat (first|refine zL ?_ _|refine zM ?_|refine zK ?_ _));refine zO (cs:=#[.int .i64 0,.int .i64 0]) ?_ 0 _ rfl;(with_reducible repeat (first|refine zL ?_ _|refine zM ?_|refine zK ?_ _));exact BK137.out) hb);replace HB:=zA (zH qb hb);clear hb));go_ret2;exact ⟨qe,qb⟩
         ·exact absurd H (by simp)
        ·exact absurd H (by simp)
       ·have H':=zA H;clear H;go_wp2;go_loopg [52] k2 (fun kq v52 w'=>∃ (x52_3:Int),v52 = .int .i64 x52_3∧Aside0 (expr_Check.l1 kq l0 t132 l0 (l0.length:Int) x52_3 = some (r1,r2))∧Aside0 (kq ≤ k2)∧Aside0 (Kd.R (Kd.int .i64) 3 w' w.heap.size (fun _=>True) v134 t132)∧Aside0 (Below w.heap.size w w'))
        case atStart=>exact ⟨(0),qr,H',⟨Nat.le_refl _⟩,⟨qR HO_6⟩,⟨qb⟩⟩
        case round =>
         clear H';obtain ⟨x52_3,rfl,HA,HK3,HO_6,HB⟩:=hrel;cases gk with
         | zero=>exact absurd HA.out (by simp [expr_Check.l1])
         | succ k3 =>
          have H:=HA.out;clear HA;simp only [expr_Check.l1] at H;rcases qj H with ⟨c20b0,H⟩|⟨c20b0,H⟩
          ·rcases qj H with ⟨c21b0,H⟩|⟨c21,H⟩
           ·rcases qj H with ⟨c22b0,H⟩|⟨c22,H⟩
            ·replace H:=zb.mp H;obtain ⟨⟨t145,t146,t147⟩,A230,H⟩:=H;replace H:(expr_Check.l2 k3 l0 t132 x52_3 t146 (wrap64 (x52_3 + 1)) l0 (l0.length:Int) x52_3) = some (r1,r2):=H;have A23:=zA A230;clear A230;have H':=zA H;clear H;have p143:0 ≤ (x52_3:Int):=qd;have q143:x52_3 < (l0.length:Int):=qd;obtain ⟨ad143,e143,hx143_0,hx143_1⟩:=at_T73 HR0.out x52_3 p143 q143;cases e143;replace hx143_0:=qy HB hx143_0;replace hx143_1:=qy HB hx143_1;replace p143:=eq_true p143;replace q143:=eq_true q143;go_wp2_with (first|((with_reducible refine zV (N:=12) rfl ?_);refine bq 12 (cs:=#[.int .i64 0,.int .i64 0]) (t:=73) ?_;intro gb144 hg w24 hbox hb;replace HO_6:=zA (Kd.R_below (qR HO_6) hb);have BK144:=zA (hbox);have GW144:=zA (qg hg);have GE144:=zA (qg hg);replace HB:=zA (zH qb hb);clear hb hbox hg;have hcz25_0:=qx BK144 0;have hcz25_1:=qx BK144 1;have hfz25_0:=zJ BK144.out 0;have hfz25_1:=zJ BK144.out 1)|((with_reducible refine zU (f:=73) rfl ?_);refine gL (some 60) Tryd.func73 #[.int .i64 ((rd_T73 l0 x52_3).f0)] ?_;(with_reducible refine (expr_truth.calls k3 ((rd_T73 l0 x52_3).f0) t145 t146 t147 _ A23.out).mono ?_);rintro e w' ⟨rfl,⟨nd,rfl⟩⟩;refine ⟨_,rfl,?_⟩));go_loopg [16] k3 (fun kq v16 w'=>∃ (x16_4:Int),v16 = .int .i64 x16_4∧Aside0 (expr_Check.l2 kq l0 t132 x52_3 t146 x16_4 l0 (l0.length:Int) x52_3 = some (r1,r2))∧Aside0 (kq ≤ k3)∧Aside0 (Kd.R (Kd.int .i64) 3 w' w.heap.size (fun _=>True) v134 t132)∧Aside0 (w'.heap[gb144]? = some (.cells #[.int .i64 ((rd_T73 l0 x52_3).f0),.int .i64 ((rd_T73 l0 x52_3).f1)] 73 (0,0)))∧Aside0 (Below w.heap.size w w'))
             case atStart=>exact ⟨(wrap64 (x52_3 + 1)),qr,H',⟨Nat.le_refl _⟩,⟨by (with_reducible repeat (first|apply Kd.R_alloc|apply Kd.R_drewN|apply Kd.R_drew));exact Kd.R_mono (Kd.R_far (p:=⟨gb144,1,none⟩) (Kd.R_far (p:=⟨gb144,0,none⟩) (Kd.R_types HO_6.out BK144.out (by decide)) (fun _ hk=>hk.2) (.int .i64 ((rd_T73 l0 x52_3).f0))) (fun _ hk=>hk.2) (.int .i64 ((rd_T73 l0 x52_3).f1))) (fun _ hk=>trivial)⟩,⟨by (with_reducible repeat (first|refine zL ?_ _|refine zM ?_|refine zK ?_ _));refine zO (cs:=#[.int .i64 ((rd_T73 l0 x52_3).f0),.int .i64 0]) ?_ 1 _ rfl;(with_reducible repeat (first|refine zL ?_ _|refine zM ?_|refine zK ?_ _));refine zO (cs:=#[.int .i64 0,.int .i64 0]) ?_ 0 _ rfl;(with_reducible repeat (first|refine zL ?_ _|refine zM ?_|refine zK ?_ _));exact BK144.out⟩,⟨qb⟩⟩
             case round =>
              clear H';obtain ⟨x16_4,rfl,HA,HK4,HO_6,BK144,HB⟩:=hrel;cases gk with
              | zero=>exact absurd HA.out (by simp [expr_Check.l2])
              | succ k4 =>
               have H:=HA.out;clear HA;simp only [expr_Check.l2] at H;rcases qj H with ⟨c26b0,H⟩|⟨c26,H⟩
               ·rcases qj H with ⟨c27b0,H⟩|⟨c27,H⟩
                ·rcases qj H with ⟨c28b0,H⟩|⟨c28b0,H⟩
                 ·rcases qj H with ⟨c29b0,H⟩|⟨c29,H⟩
                  ·rcases qj H with ⟨c30b0,H⟩|⟨c30,H⟩
                   ·replace H:=zb.mp H;obtain ⟨⟨t150,t151,t152⟩,A310,H⟩:=H;replace H:(if (t150 != t146) = true then (some (false,5)) else (if x16_4 < (t132.length:Int) then (expr_Check.l2 k4 l0 t132 x52_3 t146 (rd t132 x16_4) l0 (l0.length:Int) x52_3) else (none))) = some (r1,r2):=H;have A31:=zA A310;clear A310;by_cases c32:(t150 != t146) = true
                    ·rw [if_pos c32] at H;have c32b0:(t150 != t146) = true:=c32;(try (have c32b1:decide (t150 = t146) = false:=by simpa using c32));(try (have c32b2:(t150 == t146) = false:=by simpa using c32));(try (have c32b3:¬ (t150 = t146):=by simpa using c32));clear c32;simp only [Option.some.injEq,Prod.mk.injEq] at H;obtain ⟨rfl,rfl⟩:=H;obtain ⟨Ao33,co33,eo33⟩:=Kd.R_slice HO_6.out;subst eo33;have p148:0 ≤ (x52_3:Int):=qd;have q148:x52_3 < (t132.length:Int):=qd;(try (obtain ⟨A_,c_,e_⟩:=Kd.R_slice HO_6.out;subst e_));obtain ⟨ad148,e148,hx148_0⟩:=Kd.at_int (Kd.R_reads' HO_6.out).2.2 x52_3 p148 q148;cases e148;replace p148:=eq_true p148;replace q148:=eq_true q148;have p149:0 ≤ (x16_4:Int):=qd;have q149:x16_4 < (l0.length:Int):=qd;obtain ⟨ad149,e149,hx149_0,hx149_1⟩:=at_T73 HR0.out x16_4 p149 q149;obtain rfl:ad143 = ad149:=(by injection e149);replace hx149_0:=qy HB hx149_0;replace hx149_1:=qy HB hx149_1;replace p149:=eq_true p149;replace q149:=eq_true q149;go_wp2_with (first|((with_reducible refine zU (f:=73) rfl ?_);refine gL (some 82) Tryd.func73 #[.int .i64 ((rd_T73 l0 x16_4).f0)] ?_;(with_reducible refine (expr_truth.calls k4 ((rd_T73 l0 x16_4).f0) t150 t151 t152 _ A31.out).mono ?_);rintro e w' ⟨rfl,⟨nd,rfl⟩⟩;refine ⟨_,rfl,?_⟩));go_ret2;exact ⟨qe,qb⟩
                    ·rw [if_neg c32] at H;have c32b0:(t150 != t146) = false:=by simpa using c32
                     (try (have c32b1:decide (t150 = t146) = true:=by simpa using c32));(try (have c32b2:(t150 == t146) = true:=by simpa using c32));clear c32;rcases qj H with ⟨c34b0,H⟩|⟨c34,H⟩
                     ·have H':=zA H;clear H;obtain ⟨Ao35,co35,eo35⟩:=Kd.R_slice HO_6.out;subst eo35;have p148:0 ≤ (x52_3:Int):=qd;have q148:x52_3 < (t132.length:Int):=qd;(try (obtain ⟨A_,c_,e_⟩:=Kd.R_slice HO_6.out;subst e_));obtain ⟨ad148,e148,hx148_0⟩:=Kd.at_int (Kd.R_reads' HO_6.out).2.2 x52_3 p148 q148;cases e148;replace p148:=eq_true p148;replace q148:=eq_true q148;have p149:0 ≤ (x16_4:Int):=qd;have q149:x16_4 < (l0.length:Int):=qd;obtain ⟨ad149,e149,hx149_0,hx149_1⟩:=at_T73 HR0.out x16_4 p149 q149;obtain rfl:ad143 = ad149:=(by injection e149);replace hx149_0:=qy HB hx149_0;replace hx149_1:=qy HB hx149_1;replace p149:=eq_true p149;replace q149:=eq_true q149;go_wp2_with (first|((with_reducible refine zU (f:=73) rfl ?_);refine gL (some 82) Tryd.func73 #[.int .i64 ((rd_T73 l0 x16_4).f0)] ?_;(with_reducible refine (expr_truth.calls k4 ((rd_T73 l0 x16_4).f0) t150 t151 t152 _ A31.out).mono ?_);rintro e w' ⟨rfl,⟨nd,rfl⟩⟩;refine ⟨_,rfl,?_⟩;have p153:0 ≤ (x16_4:Int):=qd;have q153:x16_4 < (t132.length:Int):=qd;obtain ⟨ad153,e153,hx153_0⟩:=Kd.at_int (Kd.R_reads' HO_6.out).2.2 x16_4 p153 q153;obtain rfl:ad148 = ad153:=(by injection e153);replace p153:=eq_true p153;replace q153:=eq_true q153));go_roundg k4
                      case measure=>have:=HJ2.out;have:=HK2.out;have:=HK3.out;have:=HK4.out;omega
                      case rel=>exact ⟨(rd t132 x16_4),qr,H',⟨by have:=HJ2.out;have:=HK2.out;have:=HK3.out;have:=HK4.out;omega⟩,⟨qR HO_6⟩,⟨qk BK144⟩,⟨qb⟩⟩
                     ·exact absurd H (by simp)
                   ·exact absurd H (by simp)
                  ·exact absurd H (by simp)
                 ·have H':=zA H;clear H;obtain ⟨Ao36,co36,eo36⟩:=Kd.R_slice HO_6.out;subst eo36;have p148:0 ≤ (x52_3:Int):=qd;have q148:x52_3 < (t132.length:Int):=qd;(try (obtain ⟨A_,c_,e_⟩:=Kd.R_slice HO_6.out;subst e_));obtain ⟨ad148,e148,hx148_0⟩:=Kd.at_int (Kd.R_reads' HO_6.out).2.2 x52_3 p148 q148;cases e148;replace p148:=eq_true p148;replace q148:=eq_true q148;go_wp2;go_roundg k4
                  case measure=>have:=HJ2.out;have:=HK2.out;have:=HK3.out;have:=HK4.out;omega
                  case rel=>exact ⟨(wrap64 (x52_3 + 1)),qr,H',⟨by have:=HJ2.out;have:=HK2.out;have:=HK3.out;have:=HK4.out;omega⟩,⟨qR HO_6⟩,⟨qb⟩⟩
                ·exact absurd H (by simp)
               ·exact absurd H (by simp)
            ·exact absurd H (by simp)
           ·exact absurd H (by simp)
          ·by_cases c37:0 < (l0.length:Int)
           ·rw [if_pos c37] at H;have c37b0:decide (0 < (l0.length:Int)) = true:=zQ c37;have c37b1:decide (0 < l0.length) = true:=zQ (by omega);clear c37;replace H:=zb.mp H;obtain ⟨⟨t140,t141,t142⟩,A380,H⟩:=H;replace H:(some (t140,0)) = some (r1,r2):=H;have A38:=zA A380;clear A380;simp only [Option.some.injEq,Prod.mk.injEq] at H;obtain ⟨rfl,rfl⟩:=H;have p139:0 ≤ (0:Int):=(by omega);have q139:0 < (l0.length:Int):=qd;obtain ⟨ad139,e139,hx139_0,hx139_1⟩:=at_T73 HR0.out 0 p139 q139;cases e139;have qi139:(0 < l0.length) = True:=eq_true (by omega);(try rw [show ((0:Int)).toNat = 0 from rfl] at hx139_0);(try rw [show 0 * 2 = 0 from rfl] at hx139_0);(try rw [Addr.add_zero'] at hx139_0);(try rw [show ((0:Int)).toNat = 0 from rfl] at hx139_1);(try rw [show 0 * 2 = 0 from rfl] at hx139_1);(try rw [Addr.add_zero'] at hx139_1);replace hx139_0:=qy HB hx139_0;replace hx139_1:=qy HB hx139_1;replace p139:=eq_true p139;replace q139:=eq_true q139;go_wp2_with (first|((with_reducible refine zU (f:=73) rfl ?_);refine gL (some 95) Tryd.func73 #[.int .i64 ((rd_T73 l0 0).f0)] ?_;(with_reducible refine (expr_truth.calls k3 ((rd_T73 l0 0).f0) t140 t141 t142 _ A38.out).mono ?_);rintro e w' ⟨rfl,⟨nd,rfl⟩⟩;refine ⟨_,rfl,?_⟩));go_ret2;exact ⟨qe,qb⟩
           ·rw [if_neg c37] at H;exact absurd H (by simp)
    ·rw [if_neg c7] at H;have c7b0:(t133 == 0) = false:=beq_eq_false_iff_ne.mpr c7;have c7b1:(t133 != 0) = true:=bne_iff_ne.mpr c7;simp only [Option.some.injEq,Prod.mk.injEq] at H;obtain ⟨rfl,rfl⟩:=H;go_wp2_with (first|((with_reducible refine zU (f:=71) rfl ?_);refine gL (some 31) Tryd.func71 #[.slice A0 l0.length c0] ?_;(with_reducible refine (polish_Ends.calls _ _ l0 t132 t133 _ (qc HR0) HC0.out qD A6.out).mono ?_);rintro e w39 ⟨v134,rfl,ho0,hb⟩;refine ⟨_,rfl,?_⟩;have HO135:=zA (Kd.R_lower ho0 qs);replace HB:=zA (zH qb hb);clear ho0 hb));go_ret2;exact ⟨qe,qb⟩
end Go.Proofs.YtbekikafhpdehaaDoor.V
namespace Go.Proofs.YtbekikafhpdehaaDoor.V
open Go.Proofs.YtbekikafhpdehaaDoor.Al
open Option renaming bind_eq_some_iff → zb
open Go.Proofs.YtbekikafhpdehaaDoorW.PrintWords renaming below_step → zH, gate_callee → zU
open Go.Proofs.YtbekikafhpdehaaDoor.Sq
open Go.RowKit Go.Proofs.YtbekikafhpdehaaDoorW.PrintWords Go.Proofs.YtbekikafhpdehaaDoorW.PrintLast Go.Proofs.YtbekikafhpdehaaDoorW.PrintMore
attribute [local go_sem] max2_int min2_int max_two min_two max_three min_three max_four min_four
set_option linter.unusedVariables false
set_option linter.unusedSimpArgs false
def model_kind.f (k:Nat) (l0:List (S73)) (a1:Int) (a2:Bool):Option (Int):=(expr_Check.f k l0 a1).bind fun bt154=>(if bt154.2 = 0 then (if (bt154.1 != a2) = true then (some 5) else (some bt154.2)) else (some bt154.2))
theorem model_kind.mono:∀ a0 a1 a2 k,LeO (model_kind.f k a0 a1 a2) (model_kind.f (k + 1) a0 a1 a2):=by
 intro a0 a1 a2 k;unfold model_kind.f;exact qM @expr_Check.mono
set_option maxHeartbeats 8000000 in
set_option maxRecDepth 100000 in
theorem model_kind.calls (k:Nat) (A0:Option Addr) (c0:Nat) (l0:List (S73)) (a1:Int) (a2:Bool) (r:Int) (w:World) (hr0:Kd.C k73 w A0 l0.length l0) (hc0:l0.length ≤ c0) (hL:LaidG w) (h:model_kind.f k l0 a1 a2 = some r) :
  Calls Tryd.prog 83 #[.slice A0 l0.length c0,.int .i64 a1,.bool a2] w fun e w'=>e = .returned (.int .i64 r)∧Below w.heap.size w w':=by
 have HLd:=zA hL;clear hL;have HR0:=zA hr0;have HC0:=zA hc0;clear hr0 hc0;have HB:=zA (Below.refl w.heap.size w);have H:((expr_Check.f k l0 a1).bind fun bt154=>(if bt154.2 = 0 then (if (bt154.1 != a2) = true then (some 5) else (some bt154.2)) else (some bt154.2))) = some r:=h;clear h;replace H:=zb.mp H;obtain ⟨⟨t154,t155⟩,A40,H⟩:=H;replace H:(if t155 = 0 then (if (t154 != a2) = true then (some 5) else (some t155)) else (some t155)) = some r:=H;have A4:=zA A40;clear A40;by_cases c5:t155 = 0
 ·rw [if_pos c5] at H;have c5b0:(t155 == 0) = true:=beq_iff_eq.mpr c5;have c5b1:(t155 != 0) = false:=bne_eq_false_iff_eq.mpr c5;clear c5;by_cases c6:(t154 != a2) = true
  ·rw [if_pos c6] at H;have c6b0:(t154 != a2) = true:=c6;(try (have c6b1:decide (t154 = a2) = false:=by simpa using c6));(try (have c6b2:(t154 == a2) = false:=by simpa using c6));(try (have c6b3:¬ (t154 = a2):=by simpa using c6));clear c6;obtain rfl:=Option.some.inj H;go_enter Tryd.func83,Tryd.ntmps83;go_wp2_with (first|((with_reducible refine zU (f:=48) rfl ?_);refine gL (some 12) Tryd.func48 #[.slice A0 l0.length c0,.int .i64 a1] ?_;(with_reducible refine (expr_Check.calls k _ _ l0 a1 t154 t155 _ (qu HR0.out) HC0.out qD A4.out).mono ?_);rintro e w7 ⟨rfl,hb⟩;refine ⟨_,rfl,?_⟩;replace HB:=zA (zH qb hb);clear hb));go_ret;exact ⟨qe,qb⟩
  ·rw [if_neg c6] at H;have c6b0:(t154 != a2) = false:=by simpa using c6
   (try (have c6b1:decide (t154 = a2) = true:=by simpa using c6));(try (have c6b2:(t154 == a2) = true:=by simpa using c6));clear c6;obtain rfl:=Option.some.inj H;go_enter Tryd.func83,Tryd.ntmps83;go_wp2_with (first|((with_reducible refine zU (f:=48) rfl ?_);refine gL (some 12) Tryd.func48 #[.slice A0 l0.length c0,.int .i64 a1] ?_;(with_reducible refine (expr_Check.calls k _ _ l0 a1 t154 t155 _ (qu HR0.out) HC0.out qD A4.out).mono ?_);rintro e w8 ⟨rfl,hb⟩;refine ⟨_,rfl,?_⟩;replace HB:=zA (zH qb hb);clear hb));go_ret;exact ⟨qe,qb⟩
 ·rw [if_neg c5] at H;have c5b0:(t155 == 0) = false:=beq_eq_false_iff_ne.mpr c5;have c5b1:(t155 != 0) = true:=bne_iff_ne.mpr c5;obtain rfl:=Option.some.inj H;go_enter Tryd.func83,Tryd.ntmps83;go_wp2_with (first|((with_reducible refine zU (f:=48) rfl ?_);refine gL (some 12) Tryd.func48 #[.slice A0 l0.length c0,.int .i64 a1] ?_;(with_reducible refine (expr_Check.calls k _ _ l0 a1 t154 t155 _ (qu HR0.out) HC0.out qD A4.out).mono ?_);rintro e w9 ⟨rfl,hb⟩;refine ⟨_,rfl,?_⟩;replace HB:=zA (zH qb hb);clear hb));go_ret;exact ⟨qe,qb⟩
end Go.Proofs.YtbekikafhpdehaaDoor.V
