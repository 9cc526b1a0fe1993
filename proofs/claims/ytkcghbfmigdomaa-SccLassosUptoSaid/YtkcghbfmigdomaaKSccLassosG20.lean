import Derived.Test.YtkcghbfmigdomaaKSccLassosG15
namespace Go.Proofs.Ytkcghbfmigdomaa.Q
open Go.Proofs.Ytkcghbfmigdomaa.Al
open Option renaming bind_eq_some_iff → zb
open List renaming setIfInBounds_toArray → zX, set_cons_zero → zY, set_cons_succ → zZ
open Go.Proofs.YtkcghbfmigdomaaW.PrintWords renaming below_step → zH, blk_frozen → zJ, gate_callee → zU, gate_dst → zV
open Go.Proofs.Ytkcghbfmigdomaa.Sq Go.RowKit Go.Proofs.YtkcghbfmigdomaaW.PrintWords Go.Proofs.YtkcghbfmigdomaaW.PrintLast Go.Proofs.YtkcghbfmigdomaaW.PrintMore
attribute [local go_sem] max2_int min2_int max_two min_two max_three min_three max_four min_four
set_option linter.unusedVariables false
set_option linter.unusedSimpArgs false
mutual
def zAD.j0:Nat → Int → Bool → List (S63) → Int → List (List Int) → List Int → Int → Option (Int)
 | 0,_,_,_,_,_,_,_=>none
 | k + 1,x3,x39,x169000,x169001,x169002,x169003,x169004=>if x39 = true then (some 9) else (zAD.l0 k x3 1 0 x169000 x169001 x169002 x169003 x169004)
def zAD.l0:Nat → Int → Int → Int → List (S63) → Int → List (List Int) → List Int → Int → Option (Int)
 | 0,_,_,_,_,_,_,_,_=>none
 | k + 1,x3,x4,x5,x169000,x169001,x169002,x169003,x169004=>if x5 < x169004 then (zAD.l0 k x3 (wrap64 (x4 * 2)) (wrap64 (x5 + 1)) x169000 x169001 x169002 x169003 x169004) else (zAD.l1 k x3 x4 0 x169000 x169001 x169002 x169003 x169004)
def zAD.l1:Nat → Int → Int → Int → List (S63) → Int → List (List Int) → List Int → Int → Option (Int)
 | 0,_,_,_,_,_,_,_,_=>none
 | k + 1,x3,x4,x6,x169000,x169001,x169002,x169003,x169004=>if x6 < x3 then (if 0 ≤ x6 then (if x6 < (x169003.length:Int) then ((zAO.f (rd x169003 x6) 0 (wrap64 (x4 - 1))).bind fun t172=>(if t172 = true then (zAD.l2 k x3 x4 x6 0 x169000 x169001 x169002 x169003 x169004) else (some 9))) else (none)) else (none)) else (some 0)
def zAD.l2:Nat → Int → Int → Int → Int → List (S63) → Int → List (List Int) → List Int → Int → Option (Int)
 | 0,_,_,_,_,_,_,_,_,_=>none
 | k + 1,x3,x4,x6,x7,x169000,x169001,x169002,x169003,x169004=>if 0 ≤ x6 then (if x6 < (x169002.length:Int) then (if x7 < ((zAE x169002 x6).length:Int) then (if 0 ≤ x7 then ((zAO.f (rd (zAE x169002 x6) x7) 0 (wrap64 (x3 - 1))).bind fun t176=>(if t176 = true then (zAD.l2 k x3 x4 x6 (wrap64 (x7 + 1)) x169000 x169001 x169002 x169003 x169004) else (some 9))) else (none)) else (zAD.l1 k x3 x4 (wrap64 (x6 + 1)) x169000 x169001 x169002 x169003 x169004)) else (none)) else (none)
end
def zAD.f (k:Nat) (l0_0:List (S63)) (a0_1:Int) (l0_2:List (List Int)) (l0_3:List Int) (a0_4:Int):Option (Int):=if (l0_0.length:Int) > 20000 then (zAD.j0 k (l0_0.length:Int) true l0_0 a0_1 l0_2 l0_3 a0_4) else (if (l0_2.length:Int) = (l0_0.length:Int) then (if (l0_3.length:Int) = (l0_0.length:Int) then ((zAO.f a0_1 0 (l0_0.length:Int)).bind fun t169=>(if t169 = true then ((zAO.f a0_4 0 6).bind fun t170=>(zAD.j0 k (l0_0.length:Int) (!t170) l0_0 a0_1 l0_2 l0_3 a0_4)) else (zAD.j0 k (l0_0.length:Int) true l0_0 a0_1 l0_2 l0_3 a0_4))) else (zAD.j0 k (l0_0.length:Int) true l0_0 a0_1 l0_2 l0_3 a0_4)) else (zAD.j0 k (l0_0.length:Int) true l0_0 a0_1 l0_2 l0_3 a0_4))
theorem zAD.mono_l:∀ k,(∀ y0 y1 y2 y3 y4 y5 y6,LeO (zAD.j0 k y0 y1 y2 y3 y4 y5 y6) (zAD.j0 (k + 1) y0 y1 y2 y3 y4 y5 y6))∧(∀ y0 y1 y2 y3 y4 y5 y6 y7,LeO (zAD.l0 k y0 y1 y2 y3 y4 y5 y6 y7) (zAD.l0 (k + 1) y0 y1 y2 y3 y4 y5 y6 y7))∧(∀ y0 y1 y2 y3 y4 y5 y6 y7,LeO (zAD.l1 k y0 y1 y2 y3 y4 y5 y6 y7) (zAD.l1 (k + 1) y0 y1 y2 y3 y4 y5 y6 y7))∧(∀ y0 y1 y2 y3 y4 y5 y6 y7 y8,LeO (zAD.l2 k y0 y1 y2 y3 y4 y5 y6 y7 y8) (zAD.l2 (k + 1) y0 y1 y2 y3 y4 y5 y6 y7 y8))
 | 0=>⟨fun _ _ _ _ _ _ _ r h=>by simp [zAD.j0] at h,fun _ _ _ _ _ _ _ _ r h=>by simp [zAD.l0] at h,fun _ _ _ _ _ _ _ _ r h=>by simp [zAD.l1] at h,fun _ _ _ _ _ _ _ _ _ r h=>by simp [zAD.l2] at h⟩
 | k + 1=>by
  obtain ⟨ih0,ih1,ih2,ih3⟩:=zAD.mono_l k
  refine ⟨?_,?_,?_,?_⟩
  ·intro y0 y1 y2 y3 y4 y5 y6
   unfold zAD.j0
   exact qL
  ·intro y0 y1 y2 y3 y4 y5 y6 y7
   unfold zAD.l0
   exact qL
  ·intro y0 y1 y2 y3 y4 y5 y6 y7
   unfold zAD.l1
   exact qL
  ·intro y0 y1 y2 y3 y4 y5 y6 y7 y8
   unfold zAD.l2
   exact qL
theorem zAD.mono:∀ a0 a1 a2 a3 a4 k,LeO (zAD.f k a0 a1 a2 a3 a4) (zAD.f (k + 1) a0 a1 a2 a3 a4):=by
 intro a0 a1 a2 a3 a4 k;obtain ⟨ih0,ih1,ih2,ih3⟩:=zAD.mono_l k;unfold zAD.f;exact qL
set_option maxHeartbeats 8000000 in
set_option maxRecDepth 100000 in
theorem zAD.calls (k:Nat) (A0_0:Option Addr) (c0_0:Nat) (l0_0:List (S63)) (a0_1:Int) (A0_2:Option Addr) (c0_2:Nat) (l0_2:List (List Int)) (A0_3:Option Addr) (c0_3:Nat) (l0_3:List Int) (a0_4:Int) (r:Int) (w:World) (hr0_0:Kd.C k63 w A0_0 l0_0.length l0_0) (hc0_0:l0_0.length ≤ c0_0) (hr0_2:Kd.C (Kd.slice 3 (Kd.int .i64)) w A0_2 l0_2.length l0_2) (hc0_2:l0_2.length ≤ c0_2) (hr0_3:Kd.C (Kd.int .i64) w A0_3 l0_3.length l0_3) (hc0_3:l0_3.length ≤ c0_3) (h:zAD.f k l0_0 a0_1 l0_2 l0_3 a0_4 = some r) :
  Calls Try.prog 30 #[.agg #[.slice A0_0 l0_0.length c0_0,.int .i64 a0_1,.slice A0_2 l0_2.length c0_2,.slice A0_3 l0_3.length c0_3,.int .i64 a0_4]] w fun e w'=>e = .returned (.int .i64 r)∧Below w.heap.size w w':=by
 have hu26:=Try.underlying26;have HR0_0:=zA hr0_0;have HC0_0:=zA hc0_0;clear hr0_0 hc0_0;have HR0_2:=zA hr0_2;have HC0_2:=zA hc0_2;clear hr0_2 hc0_2;have HR0_3:=zA hr0_3;have HC0_3:=zA hc0_3;clear hr0_3 hc0_3;have HB:=zA (Below.refl w.heap.size w);have H:(if (l0_0.length:Int) > 20000 then (zAD.j0 k (l0_0.length:Int) true l0_0 a0_1 l0_2 l0_3 a0_4) else (if (l0_2.length:Int) = (l0_0.length:Int) then (if (l0_3.length:Int) = (l0_0.length:Int) then ((zAO.f a0_1 0 (l0_0.length:Int)).bind fun t169=>(if t169 = true then ((zAO.f a0_4 0 6).bind fun t170=>(zAD.j0 k (l0_0.length:Int) (!t170) l0_0 a0_1 l0_2 l0_3 a0_4)) else (zAD.j0 k (l0_0.length:Int) true l0_0 a0_1 l0_2 l0_3 a0_4))) else (zAD.j0 k (l0_0.length:Int) true l0_0 a0_1 l0_2 l0_3 a0_4)) else (zAD.j0 k (l0_0.length:Int) true l0_0 a0_1 l0_2 l0_3 a0_4))) = some r:=h;clear h;have HC2:=zA H;clear H;go_enter Try.func30,Try.ntmps30;go_upto_region 2 with (first|((with_reducible refine zV (N:=1) rfl ?_);(try (refine gate_guard (by rfl) ?_;dsimp only));refine bQ 1 (cs:=#[.slice A0_0 l0_0.length c0_0,.int .i64 a0_1,.slice A0_2 l0_2.length c0_2,.slice A0_3 l0_3.length c0_3,.int .i64 a0_4]) (t:=26) ?_;intro gb168 hg w3 BK168 hb;have GW168:=zA (qg hg);replace HB:=zA (zH qb hb);clear hb hg;have hcz4_0:=qx BK168 0;have hcz4_1:=qx BK168 1;have hcz4_2:=qx BK168 2;have hcz4_3:=qx BK168 3;have hcz4_4:=qx BK168 4;have hfz4_0:=zJ BK168.out));(try simp only [Act.put,zX,zY,zZ]);go_cut [39] (fun v39 wc=>∃ (kq:Nat) (x39_1:Bool),v39 = .bool x39_1∧Aside0 (zAD.j0 kq (l0_0.length:Int) x39_1 l0_0 a0_1 l0_2 l0_3 a0_4 = some r)∧Aside0 (kq ≤ k)∧Aside0 (wc.heap[gb168]? = some (.cells #[(.slice A0_0 l0_0.length c0_0),.int .i64 a0_1,(.slice A0_2 l0_2.length c0_2),(.slice A0_3 l0_3.length c0_3),.int .i64 a0_4] 26 (0,0)))∧Aside0 (Below w.heap.size w wc))
 case first =>
  have H:=HC2.out;clear HC2;by_cases c5:(l0_0.length:Int) > 20000
  ·rw [if_pos c5] at H;have c5b0:decide (20000 < (l0_0.length:Int)) = true:=zQ c5;have c5b1:decide (20000 < l0_0.length) = true:=zQ (by omega);clear c5;(first|rw [c5b0]|(simp only [i64_w,i32_w];rw [c5b0])|skip);have H':=zA H;clear H;go_wp2;go_meet
   case rel=>exact ⟨_,(true),qr,H',⟨qm⟩,⟨qk BK168⟩,⟨qb⟩⟩
  ·rw [if_neg c5] at H;have c5b0:decide (20000 < (l0_0.length:Int)) = false:=zR c5;have c5b1:decide (20000 < l0_0.length) = false:=zR (by omega);clear c5;(first|rw [c5b0]|(simp only [i64_w,i32_w];rw [c5b0])|skip);by_cases c6:(l0_2.length:Int) = (l0_0.length:Int)
   ·rw [if_pos c6] at H;have c6b0:((l0_2.length:Int) == (l0_0.length:Int)) = true:=beq_iff_eq.mpr c6;have c6b1:((l0_2.length:Int) != (l0_0.length:Int)) = false:=bne_eq_false_iff_eq.mpr c6;have c6b2:(l0_2.length == l0_0.length) = true:=by first|simpa using c6|(simp at c6 ⊢;omega)
    clear c6;by_cases c7:(l0_3.length:Int) = (l0_0.length:Int)
    ·rw [if_pos c7] at H;have c7b0:((l0_3.length:Int) == (l0_0.length:Int)) = true:=beq_iff_eq.mpr c7;have c7b1:((l0_3.length:Int) != (l0_0.length:Int)) = false:=bne_eq_false_iff_eq.mpr c7;have c7b2:(l0_3.length == l0_0.length) = true:=by first|simpa using c7|(simp at c7 ⊢;omega)
     clear c7;replace H:=zb.mp H;obtain ⟨t169,A80,H⟩:=H;(try dsimp only at H);have A8:=zA A80;clear A80;by_cases c9:t169 = true
     ·subst c9;rw [if_pos rfl] at H
      replace H:=zb.mp H;obtain ⟨t170,A100,H⟩:=H;(try dsimp only at H);have A10:=zA A100;clear A100;have H':=zA H;clear H;have hcz11_0:=qx BK168 0;have hcz11_1:=qx BK168 1;have hcz11_2:=qx BK168 2;have hcz11_3:=qx BK168 3;have hcz11_4:=qx BK168 4;have hfz11_0:=zJ BK168.out;go_wp2_with (first|(go_at_call 24;(with_reducible refine (zAO.calls a0_1 0 (l0_0.length:Int) true _ A8.out).mono ?_);rintro e w' ⟨rfl,⟨nd,rfl⟩⟩)|(go_at_call 24;(with_reducible refine (zAO.calls a0_4 0 6 t170 _ A10.out).mono ?_);rintro e w' ⟨rfl,⟨nd,rfl⟩⟩));go_meet
      case rel=>exact ⟨_,(!t170),qr,H',⟨qm⟩,⟨qk BK168⟩,⟨qb⟩⟩
     ·replace c9:=Bool.eq_false_iff.mpr c9;subst c9;rw [if_neg (show ¬ (false = true) by decide)] at H
      have H':=zA H;clear H;have hcz12_0:=qx BK168 0;have hcz12_1:=qx BK168 1;have hcz12_2:=qx BK168 2;have hcz12_3:=qx BK168 3;have hcz12_4:=qx BK168 4;have hfz12_0:=zJ BK168.out;go_wp2_with (first|(go_at_call 24;(with_reducible refine (zAO.calls a0_1 0 (l0_0.length:Int) false _ A8.out).mono ?_);rintro e w' ⟨rfl,⟨nd,rfl⟩⟩));go_meet
      case rel=>exact ⟨_,(true),qr,H',⟨qm⟩,⟨qk BK168⟩,⟨qb⟩⟩
    ·rw [if_neg c7] at H;have c7b0:((l0_3.length:Int) == (l0_0.length:Int)) = false:=beq_eq_false_iff_ne.mpr c7;have c7b1:((l0_3.length:Int) != (l0_0.length:Int)) = true:=bne_iff_ne.mpr c7;have c7b2:(l0_3.length == l0_0.length) = false:=by first|simpa using c7|(simp at c7 ⊢;omega)
     have H':=zA H;clear H;have hcz13_0:=qx BK168 0;have hcz13_1:=qx BK168 1;have hcz13_2:=qx BK168 2;have hcz13_3:=qx BK168 3;have hcz13_4:=qx BK168 4;have hfz13_0:=zJ BK168.out;go_wp2;go_meet
     case rel=>exact ⟨_,(true),qr,H',⟨qm⟩,⟨qk BK168⟩,⟨qb⟩⟩
   ·rw [if_neg c6] at H;have c6b0:((l0_2.length:Int) == (l0_0.length:Int)) = false:=beq_eq_false_iff_ne.mpr c6;have c6b1:((l0_2.length:Int) != (l0_0.length:Int)) = true:=bne_iff_ne.mpr c6;have c6b2:(l0_2.length == l0_0.length) = false:=by first|simpa using c6|(simp at c6 ⊢;omega)
    have H':=zA H;clear H;have hcz14_0:=qx BK168 0;have hcz14_1:=qx BK168 1;have hcz14_2:=qx BK168 2;have hcz14_3:=qx BK168 3;have hcz14_4:=qx BK168 4;have hfz14_0:=zJ BK168.out;go_wp2;go_meet
    case rel=>exact ⟨_,(true),qr,H',⟨qm⟩,⟨qk BK168⟩,⟨qb⟩⟩
 case rest =>
  clear HC2;obtain ⟨kq,x39_1,rfl,HA,HJ1,BK168,HB⟩:=hcut;cases kq with
  | zero=>exact absurd HA.out (by simp [zAD.j0])
  | succ kj1 =>
   have H:=HA.out;clear HA;simp only [zAD.j0] at H;by_cases c15:x39_1 = true
   ·subst c15;rw [if_pos rfl] at H
    obtain rfl:=Option.some.inj H;go_wp2;go_ret;exact ⟨qe,qb⟩
   ·replace c15:=Bool.eq_false_iff.mpr c15;subst c15;rw [if_neg (show ¬ (false = true) by decide)] at H
    have H':=zA H;clear H;go_wp2;go_loopg [4,5] kj1 (fun kq v4 v5 w'=>∃ (x4_2:Int) (x5_2:Int),v4 = .int .i64 x4_2∧v5 = .int .i64 x5_2∧Aside0 (zAD.l0 kq (l0_0.length:Int) x4_2 x5_2 l0_0 a0_1 l0_2 l0_3 a0_4 = some r)∧Aside0 (kq ≤ kj1)∧Aside0 (w'.heap[gb168]? = some (.cells #[(.slice A0_0 l0_0.length c0_0),.int .i64 a0_1,(.slice A0_2 l0_2.length c0_2),(.slice A0_3 l0_3.length c0_3),.int .i64 a0_4] 26 (0,0)))∧Aside0 (Below w.heap.size w w'))
    case atStart=>exact ⟨(1),(0),qr,qr,H',⟨Nat.le_refl _⟩,⟨qk BK168⟩,⟨qb⟩⟩
    case round =>
     clear H';obtain ⟨x4_2,x5_2,rfl,rfl,HA,HK2,BK168,HB⟩:=hrel;cases gk with
     | zero=>exact absurd HA.out (by simp [zAD.l0])
     | succ k2 =>
      have H:=HA.out;clear HA;simp only [zAD.l0] at H;rcases qj H with ⟨c16b0,H⟩|⟨c16b0,H⟩
      ·have H':=zA H;clear H;have hcz17_0:=qx BK168 0;have hcz17_1:=qx BK168 1;have hcz17_2:=qx BK168 2;have hcz17_3:=qx BK168 3;have hcz17_4:=qx BK168 4;have hfz17_0:=zJ BK168.out;go_wp2;go_roundg k2
       case measure=>have:=HJ1.out;have:=HK2.out;omega
       case rel=>exact ⟨(wrap64 (x4_2 * 2)),(wrap64 (x5_2 + 1)),qr,qr,H',⟨qp HJ1 HK2⟩,⟨qk BK168⟩,⟨qb⟩⟩
      ·have H':=zA H;clear H;have hcz18_0:=qx BK168 0;have hcz18_1:=qx BK168 1;have hcz18_2:=qx BK168 2;have hcz18_3:=qx BK168 3;have hcz18_4:=qx BK168 4;have hfz18_0:=zJ BK168.out;go_wp2;go_loopg [6] k2 (fun kq v6 w'=>∃ (x6_3:Int),v6 = .int .i64 x6_3∧Aside0 (zAD.l1 kq (l0_0.length:Int) x4_2 x6_3 l0_0 a0_1 l0_2 l0_3 a0_4 = some r)∧Aside0 (kq ≤ k2)∧Aside0 (w'.heap[gb168]? = some (.cells #[(.slice A0_0 l0_0.length c0_0),.int .i64 a0_1,(.slice A0_2 l0_2.length c0_2),(.slice A0_3 l0_3.length c0_3),.int .i64 a0_4] 26 (0,0)))∧Aside0 (Below w.heap.size w w'))
       case atStart=>exact ⟨(0),qr,H',⟨Nat.le_refl _⟩,⟨qk BK168⟩,⟨qb⟩⟩
       case round =>
        clear H';obtain ⟨x6_3,rfl,HA,HK3,BK168,HB⟩:=hrel;cases gk with
        | zero=>exact absurd HA.out (by simp [zAD.l1])
        | succ k3 =>
         have H:=HA.out;clear HA;simp only [zAD.l1] at H;rcases qj H with ⟨c19b0,H⟩|⟨c19b0,H⟩
         ·rcases qj H with ⟨c20b0,H⟩|⟨c20,H⟩
          ·rcases qj H with ⟨c21b0,H⟩|⟨c21,H⟩
           ·replace H:=zb.mp H;obtain ⟨t172,A220,H⟩:=H;(try dsimp only at H);have A22:=zA A220;clear A220;by_cases c23:t172 = true
            ·subst c23;rw [if_pos rfl] at H
             have H':=zA H;clear H;have hcz24_0:=qx BK168 0;have hcz24_1:=qx BK168 1;have hcz24_2:=qx BK168 2;have hcz24_3:=qx BK168 3;have hcz24_4:=qx BK168 4;have hfz24_0:=zJ BK168.out;have p171:0 ≤ (x6_3:Int):=qd;have q171:x6_3 < (l0_3.length:Int):=qd;obtain ⟨ad171,e171,hx171_0⟩:=Kd.at_int (qW HR0_3 HB) x6_3 p171 q171;cases e171;replace p171:=qT p171;replace q171:=qT q171;go_wp2_with (first|((with_reducible refine zU (f:=24) rfl ?_);refine gL (some 60) Try.func24 #[.int .i64 (rd l0_3 x6_3),.int .i64 0,.int .i64 (wrap64 (x4_2 - 1))] ?_;(with_reducible refine (zAO.calls (rd l0_3 x6_3) 0 (wrap64 (x4_2 - 1)) true _ A22.out).mono ?_);rintro e w' ⟨rfl,⟨nd,rfl⟩⟩;refine ⟨_,rfl,?_⟩));go_loopg [7] k3 (fun kq v7 w'=>∃ (x7_4:Int),v7 = .int .i64 x7_4∧Aside0 (zAD.l2 kq (l0_0.length:Int) x4_2 x6_3 x7_4 l0_0 a0_1 l0_2 l0_3 a0_4 = some r)∧Aside0 (kq ≤ k3)∧Aside0 (w'.heap[gb168]? = some (.cells #[(.slice A0_0 l0_0.length c0_0),.int .i64 a0_1,(.slice A0_2 l0_2.length c0_2),(.slice (some ad171) l0_3.length c0_3),.int .i64 a0_4] 26 (0,0)))∧Aside0 (Below w.heap.size w w'))
             case atStart=>exact ⟨(0),qr,H',⟨Nat.le_refl _⟩,⟨qk BK168⟩,⟨qb⟩⟩
             case round =>
              clear H';obtain ⟨x7_4,rfl,HA,HK4,BK168,HB⟩:=hrel;cases gk with
              | zero=>exact absurd HA.out (by simp [zAD.l2])
              | succ k4 =>
               have H:=HA.out;clear HA;simp only [zAD.l2] at H;rcases qj H with ⟨c25b0,H⟩|⟨c25,H⟩
               ·rcases qj H with ⟨c26b0,H⟩|⟨c26,H⟩
                ·rcases qj H with ⟨c27b0,H⟩|⟨c27b0,H⟩
                 ·rcases qj H with ⟨c28b0,H⟩|⟨c28,H⟩
                  ·replace H:=zb.mp H;obtain ⟨t176,A290,H⟩:=H;(try dsimp only at H);have A29:=zA A290;clear A290;by_cases c30:t176 = true
                   ·subst c30;rw [if_pos rfl] at H
                    have H':=zA H;clear H;have hcz31_0:=qx BK168 0;have hcz31_1:=qx BK168 1;have hcz31_2:=qx BK168 2;have hcz31_3:=qx BK168 3;have hcz31_4:=qx BK168 4;have hfz31_0:=zJ BK168.out;have p173:0 ≤ (x6_3:Int):=qd;have q173:x6_3 < (l0_2.length:Int):=qd;obtain ⟨ad173,A173_0,c173_0,e173,hx173_0,hl173_0,hi173_0⟩:=zAW HR0_2.out x6_3 p173 q173;cases e173;replace hx173_0:=qy HB hx173_0;have HR173_0:=zA hi173_0;have HC173_0:=zA hl173_0;clear hi173_0 hl173_0;replace p173:=qT p173;replace q173:=qT q173;have p174:0 ≤ (x6_3:Int):=qd;have q174:x6_3 < (l0_2.length:Int):=qd;obtain ⟨ad174,A174_0,c174_0,e174,hx174_0,hl174_0,hi174_0⟩:=zAW HR0_2.out x6_3 p174 q174;obtain rfl:ad173 = ad174:=(by injection e174);replace hx174_0:=qy HB hx174_0;have HR174_0:=zA hi174_0;have HC174_0:=zA hl174_0;clear hi174_0 hl174_0;replace p174:=qT p174;replace q174:=qT q174;have ea_:=Option.some.inj (hx173_0.symm.trans hx174_0);injection ea_ with ea_ en_ ec_;subst ea_;subst ec_;clear en_;have p175:0 ≤ (x7_4:Int):=qd;have q175:x7_4 < ((zAE l0_2 x6_3).length:Int):=qd;obtain ⟨ad175,e175,hx175_0⟩:=Kd.at_int (qW HR174_0 HB) x7_4 p175 q175;cases e175;replace p175:=qT p175;replace q175:=qT q175;go_wp2_with (first|((with_reducible refine zU (f:=24) rfl ?_);refine gL (some 82) Try.func24 #[.int .i64 (rd (zAE l0_2 x6_3) x7_4),.int .i64 0,.int .i64 (wrap64 ((l0_0.length:Int) - 1))] ?_;(with_reducible refine (zAO.calls (rd (zAE l0_2 x6_3) x7_4) 0 (wrap64 ((l0_0.length:Int) - 1)) true _ A29.out).mono ?_);rintro e w' ⟨rfl,⟨nd,rfl⟩⟩;refine ⟨_,rfl,?_⟩));go_roundg k4
                    case measure=>have:=HJ1.out;have:=HK2.out;have:=HK3.out;have:=HK4.out;omega
                    case rel=>exact ⟨(wrap64 (x7_4 + 1)),qr,H',⟨by have:=HJ1.out;have:=HK2.out;have:=HK3.out;have:=HK4.out;omega⟩,⟨qk BK168⟩,⟨qb⟩⟩
                   ·replace c30:=Bool.eq_false_iff.mpr c30;subst c30;rw [if_neg (show ¬ (false = true) by decide)] at H
                    obtain rfl:=Option.some.inj H;have hcz32_0:=qx BK168 0;have hcz32_1:=qx BK168 1;have hcz32_2:=qx BK168 2;have hcz32_3:=qx BK168 3;have hcz32_4:=qx BK168 4;have hfz32_0:=zJ BK168.out;have p173:0 ≤ (x6_3:Int):=qd;have q173:x6_3 < (l0_2.length:Int):=qd;obtain ⟨ad173,A173_0,c173_0,e173,hx173_0,hl173_0,hi173_0⟩:=zAW HR0_2.out x6_3 p173 q173;cases e173;replace hx173_0:=qy HB hx173_0;have HR173_0:=zA hi173_0;have HC173_0:=zA hl173_0;clear hi173_0 hl173_0;replace p173:=qT p173;replace q173:=qT q173;have p174:0 ≤ (x6_3:Int):=qd;have q174:x6_3 < (l0_2.length:Int):=qd;obtain ⟨ad174,A174_0,c174_0,e174,hx174_0,hl174_0,hi174_0⟩:=zAW HR0_2.out x6_3 p174 q174;obtain rfl:ad173 = ad174:=(by injection e174);replace hx174_0:=qy HB hx174_0;have HR174_0:=zA hi174_0;have HC174_0:=zA hl174_0;clear hi174_0 hl174_0;replace p174:=qT p174;replace q174:=qT q174;have ea_:=Option.some.inj (hx173_0.symm.trans hx174_0);injection ea_ with ea_ en_ ec_;subst ea_;subst ec_;clear en_;have p175:0 ≤ (x7_4:Int):=qd;have q175:x7_4 < ((zAE l0_2 x6_3).length:Int):=qd;obtain ⟨ad175,e175,hx175_0⟩:=Kd.at_int (qW HR174_0 HB) x7_4 p175 q175;cases e175;replace p175:=qT p175;replace q175:=qT q175;go_wp2_with (first|((with_reducible refine zU (f:=24) rfl ?_);refine gL (some 82) Try.func24 #[.int .i64 (rd (zAE l0_2 x6_3) x7_4),.int .i64 0,.int .i64 (wrap64 ((l0_0.length:Int) - 1))] ?_;(with_reducible refine (zAO.calls (rd (zAE l0_2 x6_3) x7_4) 0 (wrap64 ((l0_0.length:Int) - 1)) false _ A29.out).mono ?_);rintro e w' ⟨rfl,⟨nd,rfl⟩⟩;refine ⟨_,rfl,?_⟩));go_ret;exact ⟨qe,qb⟩
                  ·nomatch H
                 ·have H':=zA H;clear H;have hcz33_0:=qx BK168 0;have hcz33_1:=qx BK168 1;have hcz33_2:=qx BK168 2;have hcz33_3:=qx BK168 3;have hcz33_4:=qx BK168 4;have hfz33_0:=zJ BK168.out;have p173:0 ≤ (x6_3:Int):=qd;have q173:x6_3 < (l0_2.length:Int):=qd;obtain ⟨ad173,A173_0,c173_0,e173,hx173_0,hl173_0,hi173_0⟩:=zAW HR0_2.out x6_3 p173 q173;cases e173;replace hx173_0:=qy HB hx173_0;have HR173_0:=zA hi173_0;have HC173_0:=zA hl173_0;clear hi173_0 hl173_0;replace p173:=qT p173;replace q173:=qT q173;go_wp2;go_roundg k4
                  case measure=>have:=HJ1.out;have:=HK2.out;have:=HK3.out;have:=HK4.out;omega
                  case rel=>exact ⟨(wrap64 (x6_3 + 1)),qr,H',⟨by have:=HJ1.out;have:=HK2.out;have:=HK3.out;have:=HK4.out;omega⟩,⟨qk BK168⟩,⟨qb⟩⟩
                ·nomatch H
               ·nomatch H
            ·replace c23:=Bool.eq_false_iff.mpr c23;subst c23;rw [if_neg (show ¬ (false = true) by decide)] at H
             obtain rfl:=Option.some.inj H;have hcz34_0:=qx BK168 0;have hcz34_1:=qx BK168 1;have hcz34_2:=qx BK168 2;have hcz34_3:=qx BK168 3;have hcz34_4:=qx BK168 4;have hfz34_0:=zJ BK168.out;have p171:0 ≤ (x6_3:Int):=qd;have q171:x6_3 < (l0_3.length:Int):=qd;obtain ⟨ad171,e171,hx171_0⟩:=Kd.at_int (qW HR0_3 HB) x6_3 p171 q171;cases e171;replace p171:=qT p171;replace q171:=qT q171;go_wp2_with (first|((with_reducible refine zU (f:=24) rfl ?_);refine gL (some 60) Try.func24 #[.int .i64 (rd l0_3 x6_3),.int .i64 0,.int .i64 (wrap64 (x4_2 - 1))] ?_;(with_reducible refine (zAO.calls (rd l0_3 x6_3) 0 (wrap64 (x4_2 - 1)) false _ A22.out).mono ?_);rintro e w' ⟨rfl,⟨nd,rfl⟩⟩;refine ⟨_,rfl,?_⟩));go_ret;exact ⟨qe,qb⟩
           ·nomatch H
          ·nomatch H
         ·obtain rfl:=Option.some.inj H;go_wp2;go_ret;exact ⟨qe,qb⟩
end Go.Proofs.Ytkcghbfmigdomaa.Q
namespace Go.Proofs.Ytkcghbfmigdomaa.Q
open Go.Proofs.Ytkcghbfmigdomaa.Al
open Go.Proofs.YtkcghbfmigdomaaW.PrintWords Go.Proofs.Ytkcghbfmigdomaa.Sq Go.RowKit Go.Proofs.YtkcghbfmigdomaaW.PrintLast Go.Proofs.YtkcghbfmigdomaaW.PrintMore
attribute [local go_sem] max2_int min2_int max_two min_two max_three min_three max_four min_four
attribute [local go_sem high] eqA63
set_option linter.unusedVariables false
set_option linter.unusedSimpArgs false
def zAH.l0:Nat → List (S63) → List (S63) → Int → Option (Bool)
 | 0,_,_,_=>none
 | k + 1,x0,x1,x5=>if x5 < (x0.length:Int) then (if 0 ≤ x5 then (if x5 < (x1.length:Int) then (if (!(((zAX x0 x5).f0) == ((zAX x1 x5).f0)) || (!(((zAX x0 x5).f1) == ((zAX x1 x5).f1)))) = true then (some false) else (zAH.l0 k x0 x1 (wrap64 (x5 + 1)))) else (none)) else (none)) else (some true)
def zAH.f (k:Nat) (l0:List (S63)) (l1:List (S63)):Option (Bool):=if (l0.length:Int) = (l1.length:Int) then (zAH.l0 k l0 l1 0) else (some false)
theorem zAH.mono_l:∀ k,(∀ y0 y1 y2,LeO (zAH.l0 k y0 y1 y2) (zAH.l0 (k + 1) y0 y1 y2))
 | 0=>fun _ _ _ r h=>by simp [zAH.l0] at h
 | k + 1=>by
  have ih0:=zAH.mono_l k
  ·intro y0 y1 y2
   unfold zAH.l0
   exact qL
theorem zAH.mono:∀ a0 a1 k,LeO (zAH.f k a0 a1) (zAH.f (k + 1) a0 a1):=by
 intro a0 a1 k;have ih0:=zAH.mono_l k;unfold zAH.f;exact qL
set_option maxHeartbeats 8000000 in
set_option maxRecDepth 100000 in
theorem zAH.calls (k:Nat) (A0:Option Addr) (c0:Nat) (l0:List (S63)) (A1:Option Addr) (c1:Nat) (l1:List (S63)) (r:Bool) (w:World) (hr0:Kd.C k63 w A0 l0.length l0) (hc0:l0.length ≤ c0) (hr1:Kd.C k63 w A1 l1.length l1) (hc1:l1.length ≤ c1) (h:zAH.f k l0 l1 = some r) :
  Calls Try.prog 21 #[.slice A0 l0.length c0,.slice A1 l1.length c1] w fun e w'=>e = .returned (.bool r)∧Drawn0 w w':=by
 have hu63:=Try.underlying63;have HR0:=zA hr0;have HC0:=zA hc0;clear hr0 hc0;have HR1:=zA hr1;have HC1:=zA hc1;clear hr1 hc1;have H:(if (l0.length:Int) = (l1.length:Int) then (zAH.l0 k l0 l1 0) else (some false)) = some r:=h;clear h;by_cases c3:(l0.length:Int) = (l1.length:Int)
 ·rw [if_pos c3] at H;have c3b0:((l0.length:Int) == (l1.length:Int)) = true:=beq_iff_eq.mpr c3;have c3b1:((l0.length:Int) != (l1.length:Int)) = false:=bne_eq_false_iff_eq.mpr c3;have c3b2:(l0.length == l1.length) = true:=by first|simpa using c3|(simp at c3 ⊢;omega)
  clear c3;have H':=zA H;clear H;go_enter Try.func21,Try.ntmps21;go_wp2;(repeat (go_quiet (fail);try go_wp2));go_loopg [5] k (fun kq v5 w'=>∃ (x5_1:Int),v5 = .int .i64 x5_1∧Aside0 (zAH.l0 kq l0 l1 x5_1 = some r)∧Aside0 (kq ≤ k)∧Drawn0 w w')
  case atStart=>exact ⟨(0),qr,H',⟨Nat.le_refl _⟩,qt⟩
  case round =>
   clear H';obtain ⟨x5_1,rfl,HA,HK1,⟨m1,rfl⟩⟩:=hrel;cases gk with
   | zero=>exact absurd HA.out (by simp [zAH.l0])
   | succ k1 =>
    have H:=HA.out;clear HA;simp only [zAH.l0] at H;rcases qj H with ⟨c4b0,H⟩|⟨c4b0,H⟩
    ·rcases qj H with ⟨c5b0,H⟩|⟨c5,H⟩
     ·rcases qj H with ⟨c6b0,H⟩|⟨c6,H⟩
      ·by_cases c7:(!(((zAX l0 x5_1).f0) == ((zAX l1 x5_1).f0)) || (!(((zAX l0 x5_1).f1) == ((zAX l1 x5_1).f1)))) = true
       ·rw [if_pos c7] at H;have c7b0:(!(((zAX l0 x5_1).f0) == ((zAX l1 x5_1).f0)) || (!(((zAX l0 x5_1).f1) == ((zAX l1 x5_1).f1)))) = true:=c7;clear c7;obtain rfl:=Option.some.inj H;have p232:0 ≤ (x5_1:Int):=qd;have q232:x5_1 < (l0.length:Int):=qd;obtain ⟨ad232,e232,hx232_0,hx232_1⟩:=zAa HR0.out x5_1 p232 q232;cases e232;replace p232:=qT p232;replace q232:=qT q232;have p233:0 ≤ (x5_1:Int):=qd;have q233:x5_1 < (l1.length:Int):=qd;obtain ⟨ad233,e233,hx233_0,hx233_1⟩:=zAa HR1.out x5_1 p233 q233;cases e233;replace p233:=qT p233;replace q233:=qT q233;go_wp2;(repeat (go_quiet (fail);try go_wp2));go_ret;exact ⟨qr,qt⟩
       ·rw [if_neg c7] at H;have c7b0:(!(((zAX l0 x5_1).f0) == ((zAX l1 x5_1).f0)) || (!(((zAX l0 x5_1).f1) == ((zAX l1 x5_1).f1)))) = false:=by simpa using c7
        clear c7;have H':=zA H;clear H;have p232:0 ≤ (x5_1:Int):=qd;have q232:x5_1 < (l0.length:Int):=qd;obtain ⟨ad232,e232,hx232_0,hx232_1⟩:=zAa HR0.out x5_1 p232 q232;cases e232;replace p232:=qT p232;replace q232:=qT q232;have p233:0 ≤ (x5_1:Int):=qd;have q233:x5_1 < (l1.length:Int):=qd;obtain ⟨ad233,e233,hx233_0,hx233_1⟩:=zAa HR1.out x5_1 p233 q233;cases e233;replace p233:=qT p233;replace q233:=qT q233;go_wp2;(repeat (go_quiet (fail);try go_wp2));go_roundg k1
        case measure=>have:=HK1.out;omega
        case rel=>exact ⟨(wrap64 (x5_1 + 1)),qr,H',⟨qo HK1⟩,qt⟩
      ·nomatch H
     ·nomatch H
    ·obtain rfl:=Option.some.inj H;go_wp2;(repeat (go_quiet (fail);try go_wp2));go_ret;exact ⟨qr,qt⟩
 ·rw [if_neg c3] at H;have c3b0:((l0.length:Int) == (l1.length:Int)) = false:=beq_eq_false_iff_ne.mpr c3;have c3b1:((l0.length:Int) != (l1.length:Int)) = true:=bne_iff_ne.mpr c3;have c3b2:(l0.length == l1.length) = false:=by first|simpa using c3|(simp at c3 ⊢;omega)
  obtain rfl:=Option.some.inj H;go_enter Try.func21,Try.ntmps21;go_wp2;(repeat (go_quiet (fail);try go_wp2));go_ret;exact ⟨qr,qt⟩
end Go.Proofs.Ytkcghbfmigdomaa.Q
namespace Go.Proofs.Ytkcghbfmigdomaa.Q
open Go.Proofs.Ytkcghbfmigdomaa.Al
open Option renaming bind_eq_some_iff → zb
open Go.Proofs.YtkcghbfmigdomaaW.PrintWords Go.Proofs.Ytkcghbfmigdomaa.Sq Go.RowKit Go.Proofs.YtkcghbfmigdomaaW.PrintLast Go.Proofs.YtkcghbfmigdomaaW.PrintMore
attribute [local go_sem] max2_int min2_int max_two min_two max_three min_three max_four min_four
set_option linter.unusedVariables false
set_option linter.unusedSimpArgs false
def zAI.l0:Nat → List (List Int) → List (List Int) → Int → Option (Bool)
 | 0,_,_,_=>none
 | k + 1,x0,x1,x5=>if x5 < (x0.length:Int) then (if 0 ≤ x5 then (if x5 < (x1.length:Int) then ((zAG.f k (zAE x0 x5) (zAE x1 x5)).bind fun t238=>(if t238 = true then (zAI.l0 k x0 x1 (wrap64 (x5 + 1))) else (some false))) else (none)) else (none)) else (some true)
def zAI.f (k:Nat) (l0:List (List Int)) (l1:List (List Int)):Option (Bool):=if (l0.length:Int) = (l1.length:Int) then (zAI.l0 k l0 l1 0) else (some false)
theorem zAI.mono_l:∀ k,(∀ y0 y1 y2,LeO (zAI.l0 k y0 y1 y2) (zAI.l0 (k + 1) y0 y1 y2))
 | 0=>fun _ _ _ r h=>by simp [zAI.l0] at h
 | k + 1=>by
  have ih0:=zAI.mono_l k
  ·intro y0 y1 y2
   unfold zAI.l0
   exact qM @zAG.mono
theorem zAI.mono:∀ a0 a1 k,LeO (zAI.f k a0 a1) (zAI.f (k + 1) a0 a1):=by
 intro a0 a1 k;have ih0:=zAI.mono_l k;unfold zAI.f;exact qM @zAG.mono
set_option maxHeartbeats 8000000 in
set_option maxRecDepth 100000 in
theorem zAI.calls (k:Nat) (A0:Option Addr) (c0:Nat) (l0:List (List Int)) (A1:Option Addr) (c1:Nat) (l1:List (List Int)) (r:Bool) (w:World) (hr0:Kd.C (Kd.slice 3 (Kd.int .i64)) w A0 l0.length l0) (hc0:l0.length ≤ c0) (hr1:Kd.C (Kd.slice 3 (Kd.int .i64)) w A1 l1.length l1) (hc1:l1.length ≤ c1) (h:zAI.f k l0 l1 = some r) :
  Calls Try.prog 22 #[.slice A0 l0.length c0,.slice A1 l1.length c1] w fun e w'=>e = .returned (.bool r)∧Drawn0 w w':=by
 have HR0:=zA hr0;have HC0:=zA hc0;clear hr0 hc0;have HR1:=zA hr1;have HC1:=zA hc1;clear hr1 hc1;have H:(if (l0.length:Int) = (l1.length:Int) then (zAI.l0 k l0 l1 0) else (some false)) = some r:=h;clear h;by_cases c3:(l0.length:Int) = (l1.length:Int)
 ·rw [if_pos c3] at H;have c3b0:((l0.length:Int) == (l1.length:Int)) = true:=beq_iff_eq.mpr c3;have c3b1:((l0.length:Int) != (l1.length:Int)) = false:=bne_eq_false_iff_eq.mpr c3;have c3b2:(l0.length == l1.length) = true:=by first|simpa using c3|(simp at c3 ⊢;omega)
  clear c3;have H':=zA H;clear H;go_enter Try.func22,Try.ntmps22;go_wp2;(repeat (go_quiet (fail);try go_wp2));go_loopg [5] k (fun kq v5 w'=>∃ (x5_1:Int),v5 = .int .i64 x5_1∧Aside0 (zAI.l0 kq l0 l1 x5_1 = some r)∧Aside0 (kq ≤ k)∧Drawn0 w w')
  case atStart=>exact ⟨(0),qr,H',⟨Nat.le_refl _⟩,qt⟩
  case round =>
   clear H';obtain ⟨x5_1,rfl,HA,HK1,⟨m1,rfl⟩⟩:=hrel;cases gk with
   | zero=>exact absurd HA.out (by simp [zAI.l0])
   | succ k1 =>
    have H:=HA.out;clear HA;simp only [zAI.l0] at H;rcases qj H with ⟨c4b0,H⟩|⟨c4b0,H⟩
    ·rcases qj H with ⟨c5b0,H⟩|⟨c5,H⟩
     ·rcases qj H with ⟨c6b0,H⟩|⟨c6,H⟩
      ·replace H:=zb.mp H;obtain ⟨t238,A70,H⟩:=H;(try dsimp only at H);have A7:=zA A70;clear A70;by_cases c8:t238 = true
       ·subst c8;rw [if_pos rfl] at H
        have H':=zA H;clear H;have p236:0 ≤ (x5_1:Int):=qd;have q236:x5_1 < (l0.length:Int):=qd;obtain ⟨ad236,A236_0,c236_0,e236,hx236_0,hl236_0,hi236_0⟩:=zAW HR0.out x5_1 p236 q236;cases e236;have HR236_0:=zA hi236_0;have HC236_0:=zA hl236_0;clear hi236_0 hl236_0;replace p236:=qT p236;replace q236:=qT q236;have p237:0 ≤ (x5_1:Int):=qd;have q237:x5_1 < (l1.length:Int):=qd;obtain ⟨ad237,A237_0,c237_0,e237,hx237_0,hl237_0,hi237_0⟩:=zAW HR1.out x5_1 p237 q237;cases e237;have HR237_0:=zA hi237_0;have HC237_0:=zA hl237_0;clear hi237_0 hl237_0;replace p237:=qT p237;replace q237:=qT q237;(iterate 3 (try go_wp2_with (first|(go_at_call 23;(with_reducible refine (zAG.calls k1 _ _ (zAE l0 x5_1) _ _ (zAE l1 x5_1) true _ (qu HR236_0.out) HC236_0.out (qu HR237_0.out) HC237_0.out A7.out).mono ?_);rintro e w' ⟨rfl,⟨nd,rfl⟩⟩;(try first|exact ⟨rfl,_,World.drewN_drewN _ _ _⟩|exact ⟨rfl,_,Eq.trans (World.drewN_drewN _ _ _) (congrArg (World.drewN _) (Nat.add_assoc _ _ _))⟩)));try go_quiet (first|(go_at_call 23;(with_reducible refine (zAG.calls k1 _ _ (zAE l0 x5_1) _ _ (zAE l1 x5_1) true _ (qu HR236_0.out) HC236_0.out (qu HR237_0.out) HC237_0.out A7.out).mono ?_);rintro e w' ⟨rfl,⟨nd,rfl⟩⟩;(try first|exact ⟨rfl,_,World.drewN_drewN _ _ _⟩|exact ⟨rfl,_,Eq.trans (World.drewN_drewN _ _ _) (congrArg (World.drewN _) (Nat.add_assoc _ _ _))⟩)))));go_roundg k1
        case measure=>have:=HK1.out;omega
        case rel=>exact ⟨(wrap64 (x5_1 + 1)),qr,H',⟨qo HK1⟩,qt⟩
       ·replace c8:=Bool.eq_false_iff.mpr c8;subst c8;rw [if_neg (show ¬ (false = true) by decide)] at H
        obtain rfl:=Option.some.inj H;have p236:0 ≤ (x5_1:Int):=qd;have q236:x5_1 < (l0.length:Int):=qd;obtain ⟨ad236,A236_0,c236_0,e236,hx236_0,hl236_0,hi236_0⟩:=zAW HR0.out x5_1 p236 q236;cases e236;have HR236_0:=zA hi236_0;have HC236_0:=zA hl236_0;clear hi236_0 hl236_0;replace p236:=qT p236;replace q236:=qT q236;have p237:0 ≤ (x5_1:Int):=qd;have q237:x5_1 < (l1.length:Int):=qd;obtain ⟨ad237,A237_0,c237_0,e237,hx237_0,hl237_0,hi237_0⟩:=zAW HR1.out x5_1 p237 q237;cases e237;have HR237_0:=zA hi237_0;have HC237_0:=zA hl237_0;clear hi237_0 hl237_0;replace p237:=qT p237;replace q237:=qT q237;(iterate 3 (try go_wp2_with (first|(go_at_call 23;(with_reducible refine (zAG.calls k1 _ _ (zAE l0 x5_1) _ _ (zAE l1 x5_1) false _ (qu HR236_0.out) HC236_0.out (qu HR237_0.out) HC237_0.out A7.out).mono ?_);rintro e w' ⟨rfl,⟨nd,rfl⟩⟩;(try first|exact ⟨rfl,_,World.drewN_drewN _ _ _⟩|exact ⟨rfl,_,Eq.trans (World.drewN_drewN _ _ _) (congrArg (World.drewN _) (Nat.add_assoc _ _ _))⟩)));try go_quiet (first|(go_at_call 23;(with_reducible refine (zAG.calls k1 _ _ (zAE l0 x5_1) _ _ (zAE l1 x5_1) false _ (qu HR236_0.out) HC236_0.out (qu HR237_0.out) HC237_0.out A7.out).mono ?_);rintro e w' ⟨rfl,⟨nd,rfl⟩⟩;(try first|exact ⟨rfl,_,World.drewN_drewN _ _ _⟩|exact ⟨rfl,_,Eq.trans (World.drewN_drewN _ _ _) (congrArg (World.drewN _) (Nat.add_assoc _ _ _))⟩)))));go_ret;exact ⟨qr,qt⟩
      ·nomatch H
     ·nomatch H
    ·obtain rfl:=Option.some.inj H;go_wp2;(repeat (go_quiet (fail);try go_wp2));go_ret;exact ⟨qr,qt⟩
 ·rw [if_neg c3] at H;have c3b0:((l0.length:Int) == (l1.length:Int)) = false:=beq_eq_false_iff_ne.mpr c3;have c3b1:((l0.length:Int) != (l1.length:Int)) = true:=bne_iff_ne.mpr c3;have c3b2:(l0.length == l1.length) = false:=by first|simpa using c3|(simp at c3 ⊢;omega)
  obtain rfl:=Option.some.inj H;go_enter Try.func22,Try.ntmps22;go_wp2;(repeat (go_quiet (fail);try go_wp2));go_ret;exact ⟨qr,qt⟩
end Go.Proofs.Ytkcghbfmigdomaa.Q
