import Derived.Test.YtkcghbfmigdomaaKSccLassosG10
namespace Go.Proofs.Ytkcghbfmigdomaa.Q
open Go.Proofs.Ytkcghbfmigdomaa.Al
open List renaming setIfInBounds_toArray → zX, set_cons_zero → zY, set_cons_succ → zZ
open Go.Proofs.YtkcghbfmigdomaaW.PrintWords renaming below_step → zH, blk_frozen → zJ, gate_dst → zV
open Go.Proofs.YtkcghbfmigdomaaW.PrintWords Go.Proofs.Ytkcghbfmigdomaa.Sq Go.RowKit Go.Proofs.YtkcghbfmigdomaaW.PrintLast Go.Proofs.YtkcghbfmigdomaaW.PrintMore
attribute [local go_sem] max2_int min2_int max_two min_two max_three min_three max_four min_four
set_option linter.unusedVariables false
set_option linter.unusedSimpArgs false
def zAU.f (l0:List Int):Option (List Int):=if ([]:List Int).length + l0.length < 17592186044416 then (some (([]:List Int) ++ l0)) else (none)
set_option maxHeartbeats 8000000 in
set_option maxRecDepth 100000 in
theorem zAU.calls (A0:Option Addr) (c0:Nat) (l0:List Int) (r:List Int) (w:World) (hr0:Kd.C (Kd.int .i64) w A0 l0.length l0) (hc0:l0.length ≤ c0) (h:zAU.f l0 = some r) :
  Calls Try.prog 10 #[.slice A0 l0.length c0] w fun e w'=>∃ v0_:Value,e = .returned (v0_)∧Kd.R (Kd.int .i64) 3 w' w.heap.size (fun _=>True) v0_ r∧Below w.heap.size w w':=by
 have HR0:=zA hr0;have HC0:=zA hc0;clear hr0 hc0;have HB:=zA (Below.refl w.heap.size w);have H:(if ([]:List Int).length + l0.length < 17592186044416 then (some (([]:List Int) ++ l0)) else (none)) = some r:=h;clear h;by_cases c2:([]:List Int).length + l0.length < 17592186044416
 ·rw [if_pos c2] at H;have LMc2:=zA c2;clear c2;generalize hy101:(([]:List Int) ++ l0) = y101 at H;replace hy101:=hy101.symm
  have Ny101:=zA hy101;clear hy101;obtain rfl:=Option.some.inj H;go_enter Try.func10,Try.ntmps10;go_wp2_with (first|((with_reducible refine gate_builtin (b:=.append) (xs:=#[.const (.slice none 0 0),.tmp 3]) rfl ?_);at_builtin;refine Kd.R_append_rows (Kd.int .i64) (w0:=w) w.heap.size rfl (.const (.slice none 0 0)) (.tmp 3) 24 3 (.int .i64 0) 8 rfl Try.underlying24 info3 rfl (by decide) (by omega) (.slice none 0 0) ([]:List Int) l0 _ _ _ (fun _=>True) (fun _=>False) rfl rfl ((Kd.R_nil _ _ _ _ (fun _=>True))) (qu HR0.out) (fun _ _ h=>h) (fun _ h=>h.elim) (fun _ _=>trivial) qb qs (qo LMc2) ?_;intro v102 w3 ho hb hg hat;rw [← Ny101.out] at ho;replace HB:=zA (hb);have HO103:=zA (ho);clear ho hb hg hat));go_ret;exact ⟨_,qe,qR HO103,qb⟩
 ·rw [if_neg c2] at H;nomatch H
mutual
def zAM.j0:Nat → Int → Bool → List (S63) → Int → List (List Int) → List Int → Int → Option (Int)
 | 0,_,_,_,_,_,_,_=>none
 | k + 1,x3,x47,x123000,x123001,x123002,x123003,x123004=>if x47 = true then (some 9) else (zAM.l0 k x3 x123002 (x123002.length:Int) 0 x123000 x123001 x123002 x123003 x123004)
def zAM.l0:Nat → Int → List (List Int) → Int → Int → List (S63) → Int → List (List Int) → List Int → Int → Option (Int)
 | 0,_,_,_,_,_,_,_,_,_=>none
 | k + 1,x3,x49,x50,x51,x123000,x123001,x123002,x123003,x123004=>if x51 < x50 then (if 0 ≤ x51 then (if x51 < (x49.length:Int) then (zAM.l1 k x3 x51 x49 x50 x51 (zAE x49 x51) ((zAE x49 x51).length:Int) 0 x123000 x123001 x123002 x123003 x123004) else (none)) else (none)) else (some 0)
def zAM.l1:Nat → Int → Int → List (List Int) → Int → Int → List Int → Int → Int → List (S63) → Int → List (List Int) → List Int → Int → Option (Int)
 | 0,_,_,_,_,_,_,_,_,_,_,_,_,_=>none
 | k + 1,x3,x4,x49,x50,x51,x56,x57,x58,x123000,x123001,x123002,x123003,x123004=>if x58 < x57 then (if 0 ≤ x58 then (if x58 < (x56.length:Int) then (if (rd x56 x58) < 0 then (some 9) else (if (rd x56 x58) ≥ x3 then (some 9) else (zAM.l1 k x3 x4 x49 x50 x51 x56 x57 (wrap64 (x58 + 1)) x123000 x123001 x123002 x123003 x123004))) else (none)) else (none)) else (if 0 ≤ x4 then (if x4 < (x123003.length:Int) then (if (rd x123003 x4) < 0 then (some 9) else (if 0 ≤ x123004 then (if (rd x123003 x4) ≥ (shl .i64 1 x123004) then (some 9) else (zAM.l0 k x3 x49 x50 (wrap64 (x51 + 1)) x123000 x123001 x123002 x123003 x123004)) else (none))) else (none)) else (none))
end
def zAM.f (k:Nat) (l0_0:List (S63)) (a0_1:Int) (l0_2:List (List Int)) (l0_3:List Int) (a0_4:Int):Option (Int):=if (l0_0.length:Int) > 20000 then (zAM.j0 k (l0_0.length:Int) true l0_0 a0_1 l0_2 l0_3 a0_4) else (if (l0_2.length:Int) = (l0_0.length:Int) then (if (l0_3.length:Int) = (l0_0.length:Int) then (if a0_1 < 0 then (zAM.j0 k (l0_0.length:Int) true l0_0 a0_1 l0_2 l0_3 a0_4) else (if a0_1 > (l0_0.length:Int) then (zAM.j0 k (l0_0.length:Int) true l0_0 a0_1 l0_2 l0_3 a0_4) else (if a0_4 < 0 then (zAM.j0 k (l0_0.length:Int) true l0_0 a0_1 l0_2 l0_3 a0_4) else (zAM.j0 k (l0_0.length:Int) (decide (a0_4 > 6)) l0_0 a0_1 l0_2 l0_3 a0_4)))) else (zAM.j0 k (l0_0.length:Int) true l0_0 a0_1 l0_2 l0_3 a0_4)) else (zAM.j0 k (l0_0.length:Int) true l0_0 a0_1 l0_2 l0_3 a0_4))
theorem zAM.mono_l:∀ k,(∀ y0 y1 y2 y3 y4 y5 y6,LeO (zAM.j0 k y0 y1 y2 y3 y4 y5 y6) (zAM.j0 (k + 1) y0 y1 y2 y3 y4 y5 y6))∧(∀ y0 y1 y2 y3 y4 y5 y6 y7 y8,LeO (zAM.l0 k y0 y1 y2 y3 y4 y5 y6 y7 y8) (zAM.l0 (k + 1) y0 y1 y2 y3 y4 y5 y6 y7 y8))∧(∀ y0 y1 y2 y3 y4 y5 y6 y7 y8 y9 y10 y11 y12,LeO (zAM.l1 k y0 y1 y2 y3 y4 y5 y6 y7 y8 y9 y10 y11 y12) (zAM.l1 (k + 1) y0 y1 y2 y3 y4 y5 y6 y7 y8 y9 y10 y11 y12))
 | 0=>⟨fun _ _ _ _ _ _ _ r h=>by simp [zAM.j0] at h,fun _ _ _ _ _ _ _ _ _ r h=>by simp [zAM.l0] at h,fun _ _ _ _ _ _ _ _ _ _ _ _ _ r h=>by simp [zAM.l1] at h⟩
 | k + 1=>by
  obtain ⟨ih0,ih1,ih2⟩:=zAM.mono_l k
  refine ⟨?_,?_,?_⟩
  ·intro y0 y1 y2 y3 y4 y5 y6
   unfold zAM.j0
   exact qL
  ·intro y0 y1 y2 y3 y4 y5 y6 y7 y8
   unfold zAM.l0
   exact qL
  ·intro y0 y1 y2 y3 y4 y5 y6 y7 y8 y9 y10 y11 y12
   unfold zAM.l1
   exact qL
theorem zAM.mono:∀ a0 a1 a2 a3 a4 k,LeO (zAM.f k a0 a1 a2 a3 a4) (zAM.f (k + 1) a0 a1 a2 a3 a4):=by
 intro a0 a1 a2 a3 a4 k;obtain ⟨ih0,ih1,ih2⟩:=zAM.mono_l k;unfold zAM.f;exact qL
set_option maxHeartbeats 8000000 in
set_option maxRecDepth 100000 in
theorem zAM.calls (k:Nat) (A0_0:Option Addr) (c0_0:Nat) (l0_0:List (S63)) (a0_1:Int) (A0_2:Option Addr) (c0_2:Nat) (l0_2:List (List Int)) (A0_3:Option Addr) (c0_3:Nat) (l0_3:List Int) (a0_4:Int) (r:Int) (w:World) (hr0_0:Kd.C k63 w A0_0 l0_0.length l0_0) (hc0_0:l0_0.length ≤ c0_0) (hr0_2:Kd.C (Kd.slice 3 (Kd.int .i64)) w A0_2 l0_2.length l0_2) (hc0_2:l0_2.length ≤ c0_2) (hr0_3:Kd.C (Kd.int .i64) w A0_3 l0_3.length l0_3) (hc0_3:l0_3.length ≤ c0_3) (h:zAM.f k l0_0 a0_1 l0_2 l0_3 a0_4 = some r) :
  Calls Try.prog 27 #[.agg #[.slice A0_0 l0_0.length c0_0,.int .i64 a0_1,.slice A0_2 l0_2.length c0_2,.slice A0_3 l0_3.length c0_3,.int .i64 a0_4]] w fun e w'=>e = .returned (.int .i64 r)∧Below w.heap.size w w':=by
 have hu26:=Try.underlying26;have HR0_0:=zA hr0_0;have HC0_0:=zA hc0_0;clear hr0_0 hc0_0;have HR0_2:=zA hr0_2;have HC0_2:=zA hc0_2;clear hr0_2 hc0_2;have HR0_3:=zA hr0_3;have HC0_3:=zA hc0_3;clear hr0_3 hc0_3;have HB:=zA (Below.refl w.heap.size w);have H:(if (l0_0.length:Int) > 20000 then (zAM.j0 k (l0_0.length:Int) true l0_0 a0_1 l0_2 l0_3 a0_4) else (if (l0_2.length:Int) = (l0_0.length:Int) then (if (l0_3.length:Int) = (l0_0.length:Int) then (if a0_1 < 0 then (zAM.j0 k (l0_0.length:Int) true l0_0 a0_1 l0_2 l0_3 a0_4) else (if a0_1 > (l0_0.length:Int) then (zAM.j0 k (l0_0.length:Int) true l0_0 a0_1 l0_2 l0_3 a0_4) else (if a0_4 < 0 then (zAM.j0 k (l0_0.length:Int) true l0_0 a0_1 l0_2 l0_3 a0_4) else (zAM.j0 k (l0_0.length:Int) (decide (a0_4 > 6)) l0_0 a0_1 l0_2 l0_3 a0_4)))) else (zAM.j0 k (l0_0.length:Int) true l0_0 a0_1 l0_2 l0_3 a0_4)) else (zAM.j0 k (l0_0.length:Int) true l0_0 a0_1 l0_2 l0_3 a0_4))) = some r:=h;clear h;have HC2:=zA H;clear H;go_enter Try.func27,Try.ntmps27;go_upto_region 2 with (first|((with_reducible refine zV (N:=1) rfl ?_);(try (refine gate_guard (by rfl) ?_;dsimp only));refine bQ 1 (cs:=#[.slice A0_0 l0_0.length c0_0,.int .i64 a0_1,.slice A0_2 l0_2.length c0_2,.slice A0_3 l0_3.length c0_3,.int .i64 a0_4]) (t:=26) ?_;intro gb122 hg w3 BK122 hb;have GW122:=zA (qg hg);replace HB:=zA (zH qb hb);clear hb hg;have hcz4_0:=qx BK122 0;have hcz4_1:=qx BK122 1;have hcz4_2:=qx BK122 2;have hcz4_3:=qx BK122 3;have hcz4_4:=qx BK122 4;have hfz4_0:=zJ BK122.out));(repeat (go_quiet (first|((with_reducible refine zV (N:=1) rfl ?_);(try (refine gate_guard (by rfl) ?_;dsimp only));refine bQ 1 (cs:=#[.slice A0_0 l0_0.length c0_0,.int .i64 a0_1,.slice A0_2 l0_2.length c0_2,.slice A0_3 l0_3.length c0_3,.int .i64 a0_4]) (t:=26) ?_;intro gb122 hg w3 BK122 hb;have GW122:=zA (qg hg);replace HB:=zA (zH qb hb);clear hb hg;have hcz4_0:=qx BK122 0;have hcz4_1:=qx BK122 1;have hcz4_2:=qx BK122 2;have hcz4_3:=qx BK122 3;have hcz4_4:=qx BK122 4;have hfz4_0:=zJ BK122.out));go_upto_region 2 with (first|((with_reducible refine zV (N:=1) rfl ?_);(try (refine gate_guard (by rfl) ?_;dsimp only));refine bQ 1 (cs:=#[.slice A0_0 l0_0.length c0_0,.int .i64 a0_1,.slice A0_2 l0_2.length c0_2,.slice A0_3 l0_3.length c0_3,.int .i64 a0_4]) (t:=26) ?_;intro gb122 hg w3 BK122 hb;have GW122:=zA (qg hg);replace HB:=zA (zH qb hb);clear hb hg;have hcz4_0:=qx BK122 0;have hcz4_1:=qx BK122 1;have hcz4_2:=qx BK122 2;have hcz4_3:=qx BK122 3;have hcz4_4:=qx BK122 4;have hfz4_0:=zJ BK122.out))));(try simp only [Act.put,zX,zY,zZ]);go_cut [47] (fun v47 wc=>∃ (kq:Nat) (x47_1:Bool),v47 = .bool x47_1∧Aside0 (zAM.j0 kq (l0_0.length:Int) x47_1 l0_0 a0_1 l0_2 l0_3 a0_4 = some r)∧Aside0 (kq ≤ k)∧Aside0 (wc.heap[gb122]? = some (.cells #[(.slice A0_0 l0_0.length c0_0),.int .i64 a0_1,(.slice A0_2 l0_2.length c0_2),(.slice A0_3 l0_3.length c0_3),.int .i64 a0_4] 26 (0,0)))∧Aside0 (Below w.heap.size w wc))
 case first =>
  have H:=HC2.out;clear HC2;by_cases c5:(l0_0.length:Int) > 20000
  ·rw [if_pos c5] at H;have c5b0:decide (20000 < (l0_0.length:Int)) = true:=zQ c5;have c5b1:decide (20000 < l0_0.length) = true:=zQ (by omega);clear c5;(first|rw [c5b0]|(simp only [i64_w,i32_w];rw [c5b0])|skip);have H':=zA H;clear H;go_wp2;(repeat (go_quiet (fail);try go_wp2));go_meet
   case rel=>exact ⟨_,(true),qr,H',⟨qm⟩,⟨qk BK122⟩,⟨qb⟩⟩
  ·rw [if_neg c5] at H;have c5b0:decide (20000 < (l0_0.length:Int)) = false:=zR c5;have c5b1:decide (20000 < l0_0.length) = false:=zR (by omega);clear c5;(first|rw [c5b0]|(simp only [i64_w,i32_w];rw [c5b0])|skip);by_cases c6:(l0_2.length:Int) = (l0_0.length:Int)
   ·rw [if_pos c6] at H;have c6b0:((l0_2.length:Int) == (l0_0.length:Int)) = true:=beq_iff_eq.mpr c6;have c6b1:((l0_2.length:Int) != (l0_0.length:Int)) = false:=bne_eq_false_iff_eq.mpr c6;have c6b2:(l0_2.length == l0_0.length) = true:=by first|simpa using c6|(simp at c6 ⊢;omega)
    clear c6;by_cases c7:(l0_3.length:Int) = (l0_0.length:Int)
    ·rw [if_pos c7] at H;have c7b0:((l0_3.length:Int) == (l0_0.length:Int)) = true:=beq_iff_eq.mpr c7;have c7b1:((l0_3.length:Int) != (l0_0.length:Int)) = false:=bne_eq_false_iff_eq.mpr c7;have c7b2:(l0_3.length == l0_0.length) = true:=by first|simpa using c7|(simp at c7 ⊢;omega)
     clear c7;rcases qj H with ⟨c8b0,H⟩|⟨c8b0,H⟩
     ·have H':=zA H;clear H;have hcz9_0:=qx BK122 0;have hcz9_1:=qx BK122 1;have hcz9_2:=qx BK122 2;have hcz9_3:=qx BK122 3;have hcz9_4:=qx BK122 4;have hfz9_0:=zJ BK122.out;go_wp2;(repeat (go_quiet (fail);try go_wp2));go_meet
      case rel=>exact ⟨_,(true),qr,H',⟨qm⟩,⟨qk BK122⟩,⟨qb⟩⟩
     ·by_cases c10:a0_1 > (l0_0.length:Int)
      ·rw [if_pos c10] at H;have c10b0:decide ((l0_0.length:Int) < a0_1) = true:=zQ c10;clear c10;have H':=zA H;clear H;have hcz11_0:=qx BK122 0;have hcz11_1:=qx BK122 1;have hcz11_2:=qx BK122 2;have hcz11_3:=qx BK122 3;have hcz11_4:=qx BK122 4;have hfz11_0:=zJ BK122.out;go_wp2;(repeat (go_quiet (fail);try go_wp2));go_meet
       case rel=>exact ⟨_,(true),qr,H',⟨qm⟩,⟨qk BK122⟩,⟨qb⟩⟩
      ·rw [if_neg c10] at H;have c10b0:decide ((l0_0.length:Int) < a0_1) = false:=zR c10;clear c10;rcases qj H with ⟨c12b0,H⟩|⟨c12b0,H⟩
       ·have H':=zA H;clear H;have hcz13_0:=qx BK122 0;have hcz13_1:=qx BK122 1;have hcz13_2:=qx BK122 2;have hcz13_3:=qx BK122 3;have hcz13_4:=qx BK122 4;have hfz13_0:=zJ BK122.out;go_wp2;(repeat (go_quiet (fail);try go_wp2));go_meet
        case rel=>exact ⟨_,(true),qr,H',⟨qm⟩,⟨qk BK122⟩,⟨qb⟩⟩
       ·have H':=zA H;clear H;have hcz14_0:=qx BK122 0;have hcz14_1:=qx BK122 1;have hcz14_2:=qx BK122 2;have hcz14_3:=qx BK122 3;have hcz14_4:=qx BK122 4;have hfz14_0:=zJ BK122.out;go_wp2;(repeat (go_quiet (fail);try go_wp2));go_meet
        case rel=>exact ⟨_,(decide (a0_4 > 6)),qr,H',⟨qm⟩,⟨qk BK122⟩,⟨qb⟩⟩
    ·rw [if_neg c7] at H;have c7b0:((l0_3.length:Int) == (l0_0.length:Int)) = false:=beq_eq_false_iff_ne.mpr c7;have c7b1:((l0_3.length:Int) != (l0_0.length:Int)) = true:=bne_iff_ne.mpr c7;have c7b2:(l0_3.length == l0_0.length) = false:=by first|simpa using c7|(simp at c7 ⊢;omega)
     have H':=zA H;clear H;have hcz15_0:=qx BK122 0;have hcz15_1:=qx BK122 1;have hcz15_2:=qx BK122 2;have hcz15_3:=qx BK122 3;have hcz15_4:=qx BK122 4;have hfz15_0:=zJ BK122.out;go_wp2;(repeat (go_quiet (fail);try go_wp2));go_meet
     case rel=>exact ⟨_,(true),qr,H',⟨qm⟩,⟨qk BK122⟩,⟨qb⟩⟩
   ·rw [if_neg c6] at H;have c6b0:((l0_2.length:Int) == (l0_0.length:Int)) = false:=beq_eq_false_iff_ne.mpr c6;have c6b1:((l0_2.length:Int) != (l0_0.length:Int)) = true:=bne_iff_ne.mpr c6;have c6b2:(l0_2.length == l0_0.length) = false:=by first|simpa using c6|(simp at c6 ⊢;omega)
    have H':=zA H;clear H;have hcz16_0:=qx BK122 0;have hcz16_1:=qx BK122 1;have hcz16_2:=qx BK122 2;have hcz16_3:=qx BK122 3;have hcz16_4:=qx BK122 4;have hfz16_0:=zJ BK122.out;go_wp2;(repeat (go_quiet (fail);try go_wp2));go_meet
    case rel=>exact ⟨_,(true),qr,H',⟨qm⟩,⟨qk BK122⟩,⟨qb⟩⟩
 case rest =>
  clear HC2;obtain ⟨kq,x47_1,rfl,HA,HJ1,BK122,HB⟩:=hcut;cases kq with
  | zero=>exact absurd HA.out (by simp [zAM.j0])
  | succ kj1 =>
   have H:=HA.out;clear HA;simp only [zAM.j0] at H;by_cases c17:x47_1 = true
   ·subst c17;rw [if_pos rfl] at H
    obtain rfl:=Option.some.inj H;go_wp2;(repeat (go_quiet (fail);try go_wp2));go_ret;exact ⟨qe,qb⟩
   ·replace c17:=Bool.eq_false_iff.mpr c17;subst c17;rw [if_neg (show ¬ (false = true) by decide)] at H
    have H':=zA H;clear H;have hcz18_0:=qx BK122 0;have hcz18_1:=qx BK122 1;have hcz18_2:=qx BK122 2;have hcz18_3:=qx BK122 3;have hcz18_4:=qx BK122 4;have hfz18_0:=zJ BK122.out;go_wp2;(repeat (go_quiet (fail);try go_wp2));go_loopg [51] kj1 (fun kq v51 w'=>∃ (x51_2:Int),v51 = .int .i64 x51_2∧Aside0 (zAM.l0 kq (l0_0.length:Int) l0_2 (l0_2.length:Int) x51_2 l0_0 a0_1 l0_2 l0_3 a0_4 = some r)∧Aside0 (kq ≤ kj1)∧Aside0 (w'.heap[gb122]? = some (.cells #[(.slice A0_0 l0_0.length c0_0),.int .i64 a0_1,(.slice A0_2 l0_2.length c0_2),(.slice A0_3 l0_3.length c0_3),.int .i64 a0_4] 26 (0,0)))∧Aside0 (Below w.heap.size w w'))
    case atStart=>exact ⟨(0),qr,H',⟨Nat.le_refl _⟩,⟨qk BK122⟩,⟨qb⟩⟩
    case round =>
     clear H';obtain ⟨x51_2,rfl,HA,HK2,BK122,HB⟩:=hrel;cases gk with
     | zero=>exact absurd HA.out (by simp [zAM.l0])
     | succ k2 =>
      have H:=HA.out;clear HA;simp only [zAM.l0] at H;rcases qj H with ⟨c19b0,H⟩|⟨c19b0,H⟩
      ·rcases qj H with ⟨c20b0,H⟩|⟨c20,H⟩
       ·rcases qj H with ⟨c21b0,H⟩|⟨c21,H⟩
        ·have H':=zA H;clear H;have p123:0 ≤ (x51_2:Int):=qd;have q123:x51_2 < (l0_2.length:Int):=qd;obtain ⟨ad123,A123_0,c123_0,e123,hx123_0,hl123_0,hi123_0⟩:=zAW HR0_2.out x51_2 p123 q123;cases e123;replace hx123_0:=qy HB hx123_0;have HR123_0:=zA hi123_0;have HC123_0:=zA hl123_0;clear hi123_0 hl123_0;replace p123:=qT p123;replace q123:=qT q123;go_wp2;(repeat (go_quiet (fail);try go_wp2));go_loopg [58] k2 (fun kq v58 w'=>∃ (x58_3:Int),v58 = .int .i64 x58_3∧Aside0 (zAM.l1 kq (l0_0.length:Int) x51_2 l0_2 (l0_2.length:Int) x51_2 (zAE l0_2 x51_2) ((zAE l0_2 x51_2).length:Int) x58_3 l0_0 a0_1 l0_2 l0_3 a0_4 = some r)∧Aside0 (kq ≤ k2)∧Aside0 (w'.heap[gb122]? = some (.cells #[(.slice A0_0 l0_0.length c0_0),.int .i64 a0_1,(.slice (some ad123) l0_2.length c0_2),(.slice A0_3 l0_3.length c0_3),.int .i64 a0_4] 26 (0,0)))∧Aside0 (Below w.heap.size w w'))
         case atStart=>exact ⟨(0),qr,H',⟨Nat.le_refl _⟩,⟨qk BK122⟩,⟨qb⟩⟩
         case round =>
          clear H';obtain ⟨x58_3,rfl,HA,HK3,BK122,HB⟩:=hrel;cases gk with
          | zero=>exact absurd HA.out (by simp [zAM.l1])
          | succ k3 =>
           have H:=HA.out;clear HA;simp only [zAM.l1] at H;rcases qj H with ⟨c22b0,H⟩|⟨c22b0,H⟩
           ·rcases qj H with ⟨c23b0,H⟩|⟨c23,H⟩
            ·rcases qj H with ⟨c24b0,H⟩|⟨c24,H⟩
             ·rcases qj H with ⟨c25b0,H⟩|⟨c25b0,H⟩
              ·obtain rfl:=Option.some.inj H;have p124:0 ≤ (x58_3:Int):=qd;have q124:x58_3 < ((zAE l0_2 x51_2).length:Int):=qd;obtain ⟨ad124,e124,hx124_0⟩:=Kd.at_int (qW HR123_0 HB) x58_3 p124 q124;cases e124;replace p124:=qT p124;replace q124:=qT q124;go_wp2;(repeat (go_quiet (fail);try go_wp2));go_ret;exact ⟨qe,qb⟩
              ·by_cases c26:(rd (zAE l0_2 x51_2) x58_3) ≥ (l0_0.length:Int)
               ·rw [if_pos c26] at H;have c26b0:decide ((l0_0.length:Int) ≤ (rd (zAE l0_2 x51_2) x58_3)) = true:=zQ c26;clear c26;obtain rfl:=Option.some.inj H;have p124:0 ≤ (x58_3:Int):=qd;have q124:x58_3 < ((zAE l0_2 x51_2).length:Int):=qd;obtain ⟨ad124,e124,hx124_0⟩:=Kd.at_int (qW HR123_0 HB) x58_3 p124 q124;cases e124;replace p124:=qT p124;replace q124:=qT q124;go_wp2;(repeat (go_quiet (fail);try go_wp2));go_ret;exact ⟨qe,qb⟩
               ·rw [if_neg c26] at H;have c26b0:decide ((l0_0.length:Int) ≤ (rd (zAE l0_2 x51_2) x58_3)) = false:=zR c26;clear c26;have H':=zA H;clear H;have p124:0 ≤ (x58_3:Int):=qd;have q124:x58_3 < ((zAE l0_2 x51_2).length:Int):=qd;obtain ⟨ad124,e124,hx124_0⟩:=Kd.at_int (qW HR123_0 HB) x58_3 p124 q124;cases e124;replace p124:=qT p124;replace q124:=qT q124;go_wp2;(repeat (go_quiet (fail);try go_wp2));go_roundg k3
                case measure=>have:=HJ1.out;have:=HK2.out;have:=HK3.out;omega
                case rel=>exact ⟨(wrap64 (x58_3 + 1)),qr,H',⟨qq HJ1 HK2 HK3⟩,⟨qk BK122⟩,⟨qb⟩⟩
             ·nomatch H
            ·nomatch H
           ·rcases qj H with ⟨c27b0,H⟩|⟨c27,H⟩
            ·rcases qj H with ⟨c28b0,H⟩|⟨c28,H⟩
             ·rcases qj H with ⟨c29b0,H⟩|⟨c29b0,H⟩
              ·obtain rfl:=Option.some.inj H;have hcz30_0:=qx BK122 0;have hcz30_1:=qx BK122 1;have hcz30_2:=qx BK122 2;have hcz30_3:=qx BK122 3;have hcz30_4:=qx BK122 4;have hfz30_0:=zJ BK122.out;have p125:0 ≤ (x51_2:Int):=qd;have q125:x51_2 < (l0_3.length:Int):=qd;obtain ⟨ad125,e125,hx125_0⟩:=Kd.at_int (qW HR0_3 HB) x51_2 p125 q125;cases e125;replace p125:=qT p125;replace q125:=qT q125;go_wp2;(repeat (go_quiet (fail);try go_wp2));go_ret;exact ⟨qe,qb⟩
              ·by_cases c31:0 ≤ a0_4
               ·rw [if_pos c31] at H;have c31b0:=qT c31;have c31b1:decide (0 ≤ a0_4) = true:=zQ c31;clear c31;obtain ⟨ji32,hji32⟩:∃ j_:Int,(shl .i64 1 a0_4) = j_:=⟨_,rfl⟩;replace H:(if (rd l0_3 x51_2) ≥ (ji32) then (some 9) else (zAM.l0 k3 (l0_0.length:Int) l0_2 (l0_2.length:Int) (wrap64 (x51_2 + 1)) l0_0 a0_1 l0_2 l0_3 a0_4)) = some r:=by first|(rw [hji32] at H;exact H)|(simp only [hji32] at H ⊢;exact H)
                have hji32_:(IntKind.i64.wrap (1 * 2 ^ min a0_4.toNat 64)) = ji32:=hji32;have hji32z:a0_4 ≤ 64 → (IntKind.i64.wrap (1 * 2 ^ a0_4.toNat)) = ji32:=shl_small hji32;have hji32u:(IntKind.i64.wrap (2 ^ min a0_4.toNat 64)) = ji32:=by have h_:=hji32_;rw [Int.one_mul] at h_;exact h_
                have hji32v:a0_4 ≤ 64 → (IntKind.i64.wrap (2 ^ a0_4.toNat)) = ji32:=fun hle_=>by have h_:=hji32z hle_;rw [Int.one_mul] at h_;exact h_
                have hji32y:(wrap64 (1 * 2 ^ min a0_4.toNat 64)) = ji32:=(i64_w _).symm.trans hji32_;have hji32x:a0_4 ≤ 64 → (wrap64 (1 * 2 ^ a0_4.toNat)) = ji32:=fun h_=>(i64_w _).symm.trans (hji32z h_);by_cases c33:(rd l0_3 x51_2) ≥ (ji32)
                ·rw [if_pos c33] at H;have c33b0:decide ((ji32) ≤ (rd l0_3 x51_2)) = true:=zQ c33;clear c33;obtain rfl:=Option.some.inj H;have hcz34_0:=qx BK122 0;have hcz34_1:=qx BK122 1;have hcz34_2:=qx BK122 2;have hcz34_3:=qx BK122 3;have hcz34_4:=qx BK122 4;have hfz34_0:=zJ BK122.out;have p125:0 ≤ (x51_2:Int):=qd;have q125:x51_2 < (l0_3.length:Int):=qd;obtain ⟨ad125,e125,hx125_0⟩:=Kd.at_int (qW HR0_3 HB) x51_2 p125 q125;cases e125;replace p125:=qT p125;replace q125:=qT q125;have p126:0 ≤ (x51_2:Int):=qd;have q126:x51_2 < (l0_3.length:Int):=qd;obtain ⟨ad126,e126,hx126_0⟩:=Kd.at_int (qW HR0_3 HB) x51_2 p126 q126;obtain rfl:ad125 = ad126:=(by injection e126);replace p126:=qT p126;replace q126:=qT q126;go_wp2;(repeat (go_quiet (fail);try go_wp2));go_ret;exact ⟨by first|rfl|(simp [errW_none,errW_some] <;> rfl)|(simp only [← hji32];first|rfl|(simp [errW_none,errW_some] <;> rfl))|(simp [*,errW_none,errW_some] <;> rfl),qb⟩
                ·rw [if_neg c33] at H;have c33b0:decide ((ji32) ≤ (rd l0_3 x51_2)) = false:=zR c33;clear c33;have H':=zA H;clear H;have hcz35_0:=qx BK122 0;have hcz35_1:=qx BK122 1;have hcz35_2:=qx BK122 2;have hcz35_3:=qx BK122 3;have hcz35_4:=qx BK122 4;have hfz35_0:=zJ BK122.out;have p125:0 ≤ (x51_2:Int):=qd;have q125:x51_2 < (l0_3.length:Int):=qd;obtain ⟨ad125,e125,hx125_0⟩:=Kd.at_int (qW HR0_3 HB) x51_2 p125 q125;cases e125;replace p125:=qT p125;replace q125:=qT q125;have p126:0 ≤ (x51_2:Int):=qd;have q126:x51_2 < (l0_3.length:Int):=qd;obtain ⟨ad126,e126,hx126_0⟩:=Kd.at_int (qW HR0_3 HB) x51_2 p126 q126;obtain rfl:ad125 = ad126:=(by injection e126);replace p126:=qT p126;replace q126:=qT q126;go_wp2;(repeat (go_quiet (fail);try go_wp2));go_roundg k3
                 case measure=>have:=HJ1.out;have:=HK2.out;have:=HK3.out;omega
                 case rel=>exact ⟨(wrap64 (x51_2 + 1)),qr,H',⟨qq HJ1 HK2 HK3⟩,⟨qk BK122⟩,⟨qb⟩⟩
               ·rw [if_neg c31] at H;nomatch H
             ·nomatch H
            ·nomatch H
        ·nomatch H
       ·nomatch H
      ·obtain rfl:=Option.some.inj H;go_wp2;(repeat (go_quiet (fail);try go_wp2));go_ret;exact ⟨qe,qb⟩
end Go.Proofs.Ytkcghbfmigdomaa.Q
