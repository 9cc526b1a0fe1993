import Derived.Test.YtkcghbfmigdomaaKSccLassosG28
namespace Go.Proofs.Ytkcghbfmigdomaa.Q
open Go.Proofs.Ytkcghbfmigdomaa.Al
open Option renaming bind_eq_some_iff → zb
open Go.Proofs.YtkcghbfmigdomaaW.PrintWords renaming below_step → zH, blk_frozen → zJ, gate_callee → zU, gate_dst → zV
open Go.Proofs.Ytkcghbfmigdomaa.Sq Go.RowKit Go.Proofs.YtkcghbfmigdomaaW.PrintWords Go.Proofs.YtkcghbfmigdomaaW.PrintLast Go.Proofs.YtkcghbfmigdomaaW.PrintMore
attribute [local go_sem] max2_int min2_int max_two min_two max_three min_three max_four min_four
set_option linter.unusedVariables false
set_option linter.unusedSimpArgs false
mutual
def zAC.l0:Nat → List Int → List Bool → Int → List (S63) → Int → List (List Int) → List Int → Int → Option (Int × Int)
 | 0,_,_,_,_,_,_,_,_=>none
 | k + 1,x4,x6,x8,x215000,x215001,x215002,x215003,x215004=>if x8 < (x4.length:Int) then (if 0 ≤ x8 then (if (rd x4 x8) = x8 then (if x8 < (x6.length:Int) then (zAC.j1 k x4 x6 x8 (!(rdOf false x6 x8)) x215000 x215001 x215002 x215003 x215004) else (none)) else (zAC.j1 k x4 x6 x8 true x215000 x215001 x215002 x215003 x215004)) else (none)) else (some (0,11))
def zAC.j1:Nat → List Int → List Bool → Int → Bool → List (S63) → Int → List (List Int) → List Int → Int → Option (Int × Int)
 | 0,_,_,_,_,_,_,_,_,_=>none
 | k + 1,x4,x6,x8,x47,x215000,x215001,x215002,x215003,x215004=>if x47 = true then (zAC.l0 k x4 x6 (wrap64 (x8 + 1)) x215000 x215001 x215002 x215003 x215004) else (zAC.l1 k x4 x6 x8 false 0 x215000 x215001 x215002 x215003 x215004)
def zAC.l1:Nat → List Int → List Bool → Int → Bool → Int → List (S63) → Int → List (List Int) → List Int → Int → Option (Int × Int)
 | 0,_,_,_,_,_,_,_,_,_,_=>none
 | k + 1,x4,x6,x8,x9,x10,x215000,x215001,x215002,x215003,x215004=>if x10 < (x4.length:Int) then (zAC.l2 k x4 x6 x8 x9 x10 0 x215000 x215001 x215002 x215003 x215004) else (zAC.l3 k x4 x6 x8 x9 1 0 x215000 x215001 x215002 x215003 x215004)
def zAC.l2:Nat → List Int → List Bool → Int → Bool → Int → Int → List (S63) → Int → List (List Int) → List Int → Int → Option (Int × Int)
 | 0,_,_,_,_,_,_,_,_,_,_,_=>none
 | k + 1,x4,x6,x8,x9,x10,x11,x215000,x215001,x215002,x215003,x215004=>if 0 ≤ x10 then (if x10 < (x215002.length:Int) then (if x11 < ((zAE x215002 x10).length:Int) then (if x9 = true then (zAC.l2 k x4 x6 x8 true x10 (wrap64 (x11 + 1)) x215000 x215001 x215002 x215003 x215004) else (if x10 < (x4.length:Int) then (if (rd x4 x10) = x8 then (if 0 ≤ x11 then (if 0 ≤ (rd (zAE x215002 x10) x11) then (if (rd (zAE x215002 x10) x11) < (x4.length:Int) then (zAC.l2 k x4 x6 x8 ((rd x4 (rd (zAE x215002 x10) x11)) == x8) x10 (wrap64 (x11 + 1)) x215000 x215001 x215002 x215003 x215004) else (none)) else (none)) else (none)) else (zAC.l2 k x4 x6 x8 false x10 (wrap64 (x11 + 1)) x215000 x215001 x215002 x215003 x215004)) else (none))) else (zAC.l1 k x4 x6 x8 x9 (wrap64 (x10 + 1)) x215000 x215001 x215002 x215003 x215004)) else (none)) else (none)
def zAC.l3:Nat → List Int → List Bool → Int → Bool → Int → Int → List (S63) → Int → List (List Int) → List Int → Int → Option (Int × Int)
 | 0,_,_,_,_,_,_,_,_,_,_,_=>none
 | k + 1,x4,x6,x8,x9,x12,x13,x215000,x215001,x215002,x215003,x215004=>if x13 < x215004 then (zAC.l4 k x4 x6 x8 x9 x12 x13 false 0 x215000 x215001 x215002 x215003 x215004) else (if x9 = true then (some (x8,0)) else (zAC.l0 k x4 x6 (wrap64 (x8 + 1)) x215000 x215001 x215002 x215003 x215004))
def zAC.l4:Nat → List Int → List Bool → Int → Bool → Int → Int → Bool → Int → List (S63) → Int → List (List Int) → List Int → Int → Option (Int × Int)
 | 0,_,_,_,_,_,_,_,_,_,_,_,_,_=>none
 | k + 1,x4,x6,x8,x9,x12,x13,x14,x15,x215000,x215001,x215002,x215003,x215004=>if x15 < (x4.length:Int) then (if x14 = true then (zAC.l4 k x4 x6 x8 x9 x12 x13 true (wrap64 (x15 + 1)) x215000 x215001 x215002 x215003 x215004) else (if 0 ≤ x15 then (if (rd x4 x15) = x8 then (if x15 < (x215003.length:Int) then (if x12 = 0 then (none) else (zAC.l4 k x4 x6 x8 x9 x12 x13 ((Int.tmod (wrap64 (Int.tdiv (rd x215003 x15) x12)) 2) == 1) (wrap64 (x15 + 1)) x215000 x215001 x215002 x215003 x215004)) else (none)) else (zAC.l4 k x4 x6 x8 x9 x12 x13 false (wrap64 (x15 + 1)) x215000 x215001 x215002 x215003 x215004)) else (none))) else (if x9 = true then (zAC.l3 k x4 x6 x8 x14 (wrap64 (x12 * 2)) (wrap64 (x13 + 1)) x215000 x215001 x215002 x215003 x215004) else (zAC.l3 k x4 x6 x8 false (wrap64 (x12 * 2)) (wrap64 (x13 + 1)) x215000 x215001 x215002 x215003 x215004))
end
def zAC.f (k:Nat) (l0_0:List (S63)) (a0_1:Int) (l0_2:List (List Int)) (l0_3:List Int) (a0_4:Int):Option (Int × Int):=(zAL.f k l0_0 a0_1 l0_2 l0_3 a0_4).bind fun bt215=>(if bt215.2 = 0 then ((zAF.f k l0_0 a0_1 l0_2 l0_3 a0_4).bind fun bt219=>(zAC.l0 k bt215.1 bt219.1 0 l0_0 a0_1 l0_2 l0_3 a0_4)) else (some (0,bt215.2)))
theorem zAC.mono_l:∀ k,(∀ y0 y1 y2 y3 y4 y5 y6 y7,LeO (zAC.l0 k y0 y1 y2 y3 y4 y5 y6 y7) (zAC.l0 (k + 1) y0 y1 y2 y3 y4 y5 y6 y7))∧(∀ y0 y1 y2 y3 y4 y5 y6 y7 y8,LeO (zAC.j1 k y0 y1 y2 y3 y4 y5 y6 y7 y8) (zAC.j1 (k + 1) y0 y1 y2 y3 y4 y5 y6 y7 y8))∧(∀ y0 y1 y2 y3 y4 y5 y6 y7 y8 y9,LeO (zAC.l1 k y0 y1 y2 y3 y4 y5 y6 y7 y8 y9) (zAC.l1 (k + 1) y0 y1 y2 y3 y4 y5 y6 y7 y8 y9))∧(∀ y0 y1 y2 y3 y4 y5 y6 y7 y8 y9 y10,LeO (zAC.l2 k y0 y1 y2 y3 y4 y5 y6 y7 y8 y9 y10) (zAC.l2 (k + 1) y0 y1 y2 y3 y4 y5 y6 y7 y8 y9 y10))∧(∀ y0 y1 y2 y3 y4 y5 y6 y7 y8 y9 y10,LeO (zAC.l3 k y0 y1 y2 y3 y4 y5 y6 y7 y8 y9 y10) (zAC.l3 (k + 1) y0 y1 y2 y3 y4 y5 y6 y7 y8 y9 y10))∧(∀ y0 y1 y2 y3 y4 y5 y6 y7 y8 y9 y10 y11 y12,LeO (zAC.l4 k y0 y1 y2 y3 y4 y5 y6 y7 y8 y9 y10 y11 y12) (zAC.l4 (k + 1) y0 y1 y2 y3 y4 y5 y6 y7 y8 y9 y10 y11 y12))
 | 0=>⟨fun _ _ _ _ _ _ _ _ r h=>by simp [zAC.l0] at h,fun _ _ _ _ _ _ _ _ _ r h=>by simp [zAC.j1] at h,fun _ _ _ _ _ _ _ _ _ _ r h=>by simp [zAC.l1] at h,fun _ _ _ _ _ _ _ _ _ _ _ r h=>by simp [zAC.l2] at h,fun _ _ _ _ _ _ _ _ _ _ _ r h=>by simp [zAC.l3] at h,fun _ _ _ _ _ _ _ _ _ _ _ _ _ r h=>by simp [zAC.l4] at h⟩
 | k + 1=>by
  obtain ⟨ih0,ih1,ih2,ih3,ih4,ih5⟩:=zAC.mono_l k
  refine ⟨?_,?_,?_,?_,?_,?_⟩
  ·intro y0 y1 y2 y3 y4 y5 y6 y7
   unfold zAC.l0
   exact qM (And.intro @zAL.mono @zAF.mono)
  ·intro y0 y1 y2 y3 y4 y5 y6 y7 y8
   unfold zAC.j1
   exact qM (And.intro @zAL.mono @zAF.mono)
  ·intro y0 y1 y2 y3 y4 y5 y6 y7 y8 y9
   unfold zAC.l1
   exact qM (And.intro @zAL.mono @zAF.mono)
  ·intro y0 y1 y2 y3 y4 y5 y6 y7 y8 y9 y10
   unfold zAC.l2
   exact qM (And.intro @zAL.mono @zAF.mono)
  ·intro y0 y1 y2 y3 y4 y5 y6 y7 y8 y9 y10
   unfold zAC.l3
   exact qM (And.intro @zAL.mono @zAF.mono)
  ·intro y0 y1 y2 y3 y4 y5 y6 y7 y8 y9 y10 y11 y12
   unfold zAC.l4
   exact qM (And.intro @zAL.mono @zAF.mono)
theorem zAC.mono:∀ a0 a1 a2 a3 a4 k,LeO (zAC.f k a0 a1 a2 a3 a4) (zAC.f (k + 1) a0 a1 a2 a3 a4):=by
 intro a0 a1 a2 a3 a4 k;obtain ⟨ih0,ih1,ih2,ih3,ih4,ih5⟩:=zAC.mono_l k;unfold zAC.f;exact qM (And.intro @zAL.mono @zAF.mono)
set_option maxHeartbeats 8000000 in
set_option maxRecDepth 100000 in
theorem zAC.calls (k:Nat) (A0_0:Option Addr) (c0_0:Nat) (l0_0:List (S63)) (a0_1:Int) (A0_2:Option Addr) (c0_2:Nat) (l0_2:List (List Int)) (A0_3:Option Addr) (c0_3:Nat) (l0_3:List Int) (a0_4:Int) (r1:Int) (r2:Int) (w:World) (hr0_0:Kd.C k63 w A0_0 l0_0.length l0_0) (hc0_0:l0_0.length ≤ c0_0) (hr0_2:Kd.C (Kd.slice 3 (Kd.int .i64)) w A0_2 l0_2.length l0_2) (hc0_2:l0_2.length ≤ c0_2) (hr0_3:Kd.C (Kd.int .i64) w A0_3 l0_3.length l0_3) (hc0_3:l0_3.length ≤ c0_3) (h:zAC.f k l0_0 a0_1 l0_2 l0_3 a0_4 = some (r1,r2)) :
  Calls Try.prog 6 #[.agg #[.slice A0_0 l0_0.length c0_0,.int .i64 a0_1,.slice A0_2 l0_2.length c0_2,.slice A0_3 l0_3.length c0_3,.int .i64 a0_4]] w fun e w'=>e = .returned (.tuple #[.int .i64 r1,.int .i64 r2])∧Below w.heap.size w w':=by
 have hu26:=Try.underlying26;have HR0_0:=zA hr0_0;have HC0_0:=zA hc0_0;clear hr0_0 hc0_0;have HR0_2:=zA hr0_2;have HC0_2:=zA hc0_2;clear hr0_2 hc0_2;have HR0_3:=zA hr0_3;have HC0_3:=zA hc0_3;clear hr0_3 hc0_3;have HB:=zA (Below.refl w.heap.size w);have H:((zAL.f k l0_0 a0_1 l0_2 l0_3 a0_4).bind fun bt215=>(if bt215.2 = 0 then ((zAF.f k l0_0 a0_1 l0_2 l0_3 a0_4).bind fun bt219=>(zAC.l0 k bt215.1 bt219.1 0 l0_0 a0_1 l0_2 l0_3 a0_4)) else (some (0,bt215.2)))) = some (r1,r2):=h;clear h;replace H:=zb.mp H;obtain ⟨⟨t215,t218⟩,A20,H⟩:=H;(try dsimp only at H);have A2:=zA A20;clear A20;rcases qE H with ⟨c3b0,c3b1,H⟩|⟨c3,c3b0,c3b1,H⟩
 ·replace H:=zb.mp H;obtain ⟨⟨t219,t222⟩,A40,H⟩:=H;(try dsimp only at H);have A4:=zA A40;clear A40;have H':=zA H;clear H;go_enter Try.func6,Try.ntmps6;go_wp2_with (first|((with_reducible refine zV (N:=1) rfl ?_);refine bQ 1 (cs:=#[.slice A0_0 l0_0.length c0_0,.int .i64 a0_1,.slice A0_2 l0_2.length c0_2,.slice A0_3 l0_3.length c0_3,.int .i64 a0_4]) (t:=26) ?_;intro gb214 hg w5 BK214 hb;have GW214:=zA (qg hg);replace HB:=zA (zH qb hb);clear hb hg;have hcz6_0:=qx BK214 0;have hcz6_1:=qx BK214 1;have hcz6_2:=qx BK214 2;have hcz6_3:=qx BK214 3;have hcz6_4:=qx BK214 4;have hfz6_0:=zJ BK214.out)|((with_reducible refine zU (f:=19) rfl ?_);refine gL (some 18) Try.func19 #[.agg #[.slice A0_0 l0_0.length c0_0,.int .i64 a0_1,.slice A0_2 l0_2.length c0_2,.slice A0_3 l0_3.length c0_3,.int .i64 a0_4]] ?_;(with_reducible refine (zAL.calls k _ _ l0_0 a0_1 _ _ l0_2 _ _ l0_3 a0_4 t215 t218 _ (qc HR0_0) HC0_0.out (qc HR0_2) HC0_2.out (qc HR0_3) HC0_3.out A2.out).mono ?_);rintro e w7 ⟨v216,rfl,ho0,hb⟩;refine ⟨_,rfl,?_⟩;have HO217:=zA (Kd.R_lower ho0 qs);replace BK214:=qK BK214 hb;replace HB:=zA (zH qb hb);clear ho0 hb;have hcz8_0:=qx BK214 0;have hcz8_1:=qx BK214 1;have hcz8_2:=qx BK214 2;have hcz8_3:=qx BK214 3;have hcz8_4:=qx BK214 4;have hfz8_0:=zJ BK214.out)|((with_reducible refine zU (f:=20) rfl ?_);refine gL (some 26) Try.func20 #[.agg #[.slice A0_0 l0_0.length c0_0,.int .i64 a0_1,.slice A0_2 l0_2.length c0_2,.slice A0_3 l0_3.length c0_3,.int .i64 a0_4]] ?_;(with_reducible refine (zAF.calls k _ _ l0_0 a0_1 _ _ l0_2 _ _ l0_3 a0_4 t219 t222 _ (qc HR0_0) HC0_0.out (qc HR0_2) HC0_2.out (qc HR0_3) HC0_3.out A4.out).mono ?_);rintro e w9 ⟨v220,rfl,ho0,hb⟩;refine ⟨_,rfl,?_⟩;replace HO217:=zA (Kd.R_below (qR HO217) hb);have HO221:=zA (Kd.R_lower ho0 qs);replace BK214:=qK BK214 hb;replace HB:=zA (zH qb hb);clear ho0 hb));go_loopg [8] k (fun kq v8 w'=>∃ (x8_1:Int),v8 = .int .i64 x8_1∧Aside0 (zAC.l0 kq t215 t219 x8_1 l0_0 a0_1 l0_2 l0_3 a0_4 = some (r1,r2))∧Aside0 (kq ≤ k)∧Aside0 (Kd.R (Kd.int .i64) 3 w' w.heap.size (fun _=>True) v216 t215)∧Aside0 (Kd.R Kd.bool 4 w' w.heap.size (fun _=>True) v220 t219)∧Aside0 (w'.heap[gb214]? = some (.cells #[(.slice A0_0 l0_0.length c0_0),.int .i64 a0_1,(.slice A0_2 l0_2.length c0_2),(.slice A0_3 l0_3.length c0_3),.int .i64 a0_4] 26 (0,0)))∧Aside0 (Below w.heap.size w w'))
  case atStart=>exact ⟨(0),qr,H',⟨Nat.le_refl _⟩,⟨qR HO217⟩,⟨qR HO221⟩,⟨qk BK214⟩,⟨qb⟩⟩
  case round =>
   clear H';obtain ⟨x8_1,rfl,HA,HK1,HO_4,HO_6,BK214,HB⟩:=hrel;cases gk with
   | zero=>exact absurd HA.out (by simp [zAC.l0])
   | succ k1 =>
    have H:=HA.out;clear HA;simp only [zAC.l0] at H;rcases qj H with ⟨c10b0,H⟩|⟨c10b0,H⟩
    ·have HC11:=zA H;clear H;obtain ⟨Ao12,co12,eo12⟩:=Kd.R_slice HO_4.out;subst eo12;go_upto_region 8 with (fail);go_cut [47] (fun v47 wc=>∃ (kq:Nat) (x47_10:Bool),v47 = .bool x47_10∧Aside0 (zAC.j1 kq t215 t219 x8_1 x47_10 l0_0 a0_1 l0_2 l0_3 a0_4 = some (r1,r2))∧Aside0 (kq ≤ k1)∧Aside0 (Kd.R (Kd.int .i64) 3 wc w.heap.size (fun _=>True) (.slice Ao12 t215.length co12) t215)∧Aside0 (Kd.R Kd.bool 4 wc w.heap.size (fun _=>True) v220 t219)∧Aside0 (wc.heap[gb214]? = some (.cells #[(.slice A0_0 l0_0.length c0_0),.int .i64 a0_1,(.slice A0_2 l0_2.length c0_2),(.slice A0_3 l0_3.length c0_3),.int .i64 a0_4] 26 (0,0)))∧Aside0 (Below w.heap.size w wc))
     case first =>
      have H:=HC11.out;clear HC11;rcases qj H with ⟨c13b0,H⟩|⟨c13,H⟩
      ·(first|rw [c13b0]|(simp only [i64_w,i32_w];rw [c13b0])|skip);rcases qE H with ⟨c14b0,c14b1,H⟩|⟨c14,c14b0,c14b1,H⟩
       ·rcases qj H with ⟨c15b0,H⟩|⟨c15,H⟩
        ·have H':=zA H;clear H;have p223:0 ≤ (x8_1:Int):=qd;have q223:x8_1 < (t215.length:Int):=qd;(try (obtain ⟨A_,c_,e_⟩:=Kd.R_slice HO_4.out;subst e_));obtain ⟨ad223,e223,hx223_0⟩:=Kd.at_int (Kd.R_reads' HO_4.out).2.2 x8_1 p223 q223;cases e223;replace p223:=qT p223;replace q223:=qT q223;obtain ⟨Ao16,co16,eo16⟩:=Kd.R_slice HO_6.out;subst eo16;have p224:0 ≤ (x8_1:Int):=qd;have q224:x8_1 < (t219.length:Int):=qd;(try (obtain ⟨A_,c_,e_⟩:=Kd.R_slice HO_6.out;subst e_));obtain ⟨ad224,e224,hx224_0⟩:=Kd.at_bool (Kd.R_reads' HO_6.out).2.2 x8_1 p224 q224;cases e224;replace p224:=qT p224;replace q224:=qT q224;go_wp2;go_meet
         case rel=>exact ⟨_,(!(rdOf false t219 x8_1)),qr,H',⟨qo HK1⟩,⟨qR HO_4⟩,⟨qR HO_6⟩,⟨qk BK214⟩,⟨qb⟩⟩
        ·nomatch H
       ·have H':=zA H;clear H;have p223:0 ≤ (x8_1:Int):=qd;have q223:x8_1 < (t215.length:Int):=qd;(try (obtain ⟨A_,c_,e_⟩:=Kd.R_slice HO_4.out;subst e_));obtain ⟨ad223,e223,hx223_0⟩:=Kd.at_int (Kd.R_reads' HO_4.out).2.2 x8_1 p223 q223;cases e223;replace p223:=qT p223;replace q223:=qT q223;go_wp2;go_meet
        case rel=>exact ⟨_,(true),qr,H',⟨qo HK1⟩,⟨qR HO_4⟩,⟨qR HO_6⟩,⟨qk BK214⟩,⟨qb⟩⟩
      ·nomatch H
     case rest =>
      clear HC11;obtain ⟨kq,x47_10,rfl,HA,HJ10,HO_4,HO_6,BK214,HB⟩:=hcut;cases kq with
      | zero=>exact absurd HA.out (by simp [zAC.j1])
      | succ kj10 =>
       have H:=HA.out;clear HA;simp only [zAC.j1] at H;by_cases c17:x47_10 = true
       ·subst c17;rw [if_pos rfl] at H
        have H':=zA H;clear H;go_wp2;go_roundg kj10
        case measure=>have:=HK1.out;have:=HJ10.out;omega
        case rel=>exact ⟨(wrap64 (x8_1 + 1)),qr,H',⟨qp HK1 HJ10⟩,⟨qR HO_4⟩,⟨qR HO_6⟩,⟨qk BK214⟩,⟨qb⟩⟩
       ·replace c17:=Bool.eq_false_iff.mpr c17;subst c17;rw [if_neg (show ¬ (false = true) by decide)] at H
        have H':=zA H;clear H;go_wp2;go_loopg [9,10] kj10 (fun kq v9 v10 w'=>∃ (x9_3:Bool) (x10_3:Int),v9 = .bool x9_3∧v10 = .int .i64 x10_3∧Aside0 (zAC.l1 kq t215 t219 x8_1 x9_3 x10_3 l0_0 a0_1 l0_2 l0_3 a0_4 = some (r1,r2))∧Aside0 (kq ≤ kj10)∧Aside0 (Kd.R (Kd.int .i64) 3 w' w.heap.size (fun _=>True) (.slice Ao12 t215.length co12) t215)∧Aside0 (Kd.R Kd.bool 4 w' w.heap.size (fun _=>True) v220 t219)∧Aside0 (w'.heap[gb214]? = some (.cells #[(.slice A0_0 l0_0.length c0_0),.int .i64 a0_1,(.slice A0_2 l0_2.length c0_2),(.slice A0_3 l0_3.length c0_3),.int .i64 a0_4] 26 (0,0)))∧Aside0 (Below w.heap.size w w'))
        case atStart=>exact ⟨(false),(0),qr,qr,H',⟨Nat.le_refl _⟩,⟨qR HO_4⟩,⟨qR HO_6⟩,⟨qk BK214⟩,⟨qb⟩⟩
        case round =>
         clear H';obtain ⟨x9_3,x10_3,rfl,rfl,HA,HK3,HO_4,HO_6,BK214,HB⟩:=hrel;cases gk with
         | zero=>exact absurd HA.out (by simp [zAC.l1])
         | succ k3 =>
          have H:=HA.out;clear HA;simp only [zAC.l1] at H;rcases qj H with ⟨c18b0,H⟩|⟨c18b0,H⟩
          ·have H':=zA H;clear H;go_wp2;go_loopg [9,11] k3 (fun kq v9 v11 w'=>∃ (x9_4:Bool) (x11_4:Int),v9 = .bool x9_4∧v11 = .int .i64 x11_4∧Aside0 (zAC.l2 kq t215 t219 x8_1 x9_4 x10_3 x11_4 l0_0 a0_1 l0_2 l0_3 a0_4 = some (r1,r2))∧Aside0 (kq ≤ k3)∧Aside0 (Kd.R (Kd.int .i64) 3 w' w.heap.size (fun _=>True) (.slice Ao12 t215.length co12) t215)∧Aside0 (Kd.R Kd.bool 4 w' w.heap.size (fun _=>True) v220 t219)∧Aside0 (w'.heap[gb214]? = some (.cells #[(.slice A0_0 l0_0.length c0_0),.int .i64 a0_1,(.slice A0_2 l0_2.length c0_2),(.slice A0_3 l0_3.length c0_3),.int .i64 a0_4] 26 (0,0)))∧Aside0 (Below w.heap.size w w'))
           case atStart=>exact ⟨(x9_3),(0),qr,qr,H',⟨Nat.le_refl _⟩,⟨qR HO_4⟩,⟨qR HO_6⟩,⟨qk BK214⟩,⟨qb⟩⟩
           case round =>
            clear H';obtain ⟨x9_4,x11_4,rfl,rfl,HA,HK4,HO_4,HO_6,BK214,HB⟩:=hrel;cases gk with
            | zero=>exact absurd HA.out (by simp [zAC.l2])
            | succ k4 =>
             have H:=HA.out;clear HA;simp only [zAC.l2] at H;rcases qj H with ⟨c19b0,H⟩|⟨c19,H⟩
             ·rcases qj H with ⟨c20b0,H⟩|⟨c20,H⟩
              ·rcases qj H with ⟨c21b0,H⟩|⟨c21b0,H⟩
               ·by_cases c22:x9_4 = true
                ·subst c22;rw [if_pos rfl] at H
                 have H':=zA H;clear H;have hcz23_0:=qx BK214 0;have hcz23_1:=qx BK214 1;have hcz23_2:=qx BK214 2;have hcz23_3:=qx BK214 3;have hcz23_4:=qx BK214 4;have hfz23_0:=zJ BK214.out;have p225:0 ≤ (x10_3:Int):=qd;have q225:x10_3 < (l0_2.length:Int):=qd;obtain ⟨ad225,A225_0,c225_0,e225,hx225_0,hl225_0,hi225_0⟩:=zAW HR0_2.out x10_3 p225 q225;cases e225;replace hx225_0:=qy HB hx225_0;have HR225_0:=zA hi225_0;have HC225_0:=zA hl225_0;clear hi225_0 hl225_0;replace p225:=qT p225;replace q225:=qT q225;go_wp2;go_roundg k4
                 case measure=>have:=HK1.out;have:=HJ10.out;have:=HK3.out;have:=HK4.out;omega
                 case rel=>exact ⟨(true),(wrap64 (x11_4 + 1)),qr,qr,H',⟨by have:=HK1.out;have:=HJ10.out;have:=HK3.out;have:=HK4.out;omega⟩,⟨qR HO_4⟩,⟨qR HO_6⟩,⟨qk BK214⟩,⟨qb⟩⟩
                ·replace c22:=Bool.eq_false_iff.mpr c22;subst c22;rw [if_neg (show ¬ (false = true) by decide)] at H
                 rcases qj H with ⟨c24b0,H⟩|⟨c24,H⟩
                 ·rcases qE H with ⟨c25b0,c25b1,H⟩|⟨c25,c25b0,c25b1,H⟩
                  ·rcases qj H with ⟨c26b0,H⟩|⟨c26,H⟩
                   ·rcases qj H with ⟨c27b0,H⟩|⟨c27,H⟩
                    ·rcases qj H with ⟨c28b0,H⟩|⟨c28,H⟩
                     ·have H':=zA H;clear H;have hcz29_0:=qx BK214 0;have hcz29_1:=qx BK214 1;have hcz29_2:=qx BK214 2;have hcz29_3:=qx BK214 3;have hcz29_4:=qx BK214 4;have hfz29_0:=zJ BK214.out;have p225:0 ≤ (x10_3:Int):=qd;have q225:x10_3 < (l0_2.length:Int):=qd;obtain ⟨ad225,A225_0,c225_0,e225,hx225_0,hl225_0,hi225_0⟩:=zAW HR0_2.out x10_3 p225 q225;cases e225;replace hx225_0:=qy HB hx225_0;have HR225_0:=zA hi225_0;have HC225_0:=zA hl225_0;clear hi225_0 hl225_0;replace p225:=qT p225;replace q225:=qT q225;have p226:0 ≤ (x10_3:Int):=qd;have q226:x10_3 < (t215.length:Int):=qd;(try (obtain ⟨A_,c_,e_⟩:=Kd.R_slice HO_4.out;subst e_));obtain ⟨ad226,e226,hx226_0⟩:=Kd.at_int (Kd.R_reads' HO_4.out).2.2 x10_3 p226 q226;cases e226;replace p226:=qT p226;replace q226:=qT q226;have p227:0 ≤ (x10_3:Int):=qd;have q227:x10_3 < (l0_2.length:Int):=qd;obtain ⟨ad227,A227_0,c227_0,e227,hx227_0,hl227_0,hi227_0⟩:=zAW HR0_2.out x10_3 p227 q227;obtain rfl:ad225 = ad227:=(by injection e227);replace hx227_0:=qy HB hx227_0;have HR227_0:=zA hi227_0;have HC227_0:=zA hl227_0;clear hi227_0 hl227_0;replace p227:=qT p227;replace q227:=qT q227;have ea_:=Option.some.inj (hx225_0.symm.trans hx227_0);injection ea_ with ea_ en_ ec_;subst ea_;subst ec_;clear en_;have p228:0 ≤ (x11_4:Int):=qd;have q228:x11_4 < ((zAE l0_2 x10_3).length:Int):=qd;obtain ⟨ad228,e228,hx228_0⟩:=Kd.at_int (qW HR227_0 HB) x11_4 p228 q228;cases e228;replace p228:=qT p228;replace q228:=qT q228;have p229:0 ≤ ((rd (zAE l0_2 x10_3) x11_4):Int):=qd;have q229:(rd (zAE l0_2 x10_3) x11_4) < (t215.length:Int):=qd;(try (obtain ⟨A_,c_,e_⟩:=Kd.R_slice HO_4.out;subst e_));obtain ⟨ad229,e229,hx229_0⟩:=Kd.at_int (Kd.R_reads' HO_4.out).2.2 (rd (zAE l0_2 x10_3) x11_4) p229 q229;obtain rfl:ad226 = ad229:=(by injection e229);replace p229:=qT p229;replace q229:=qT q229;go_wp2;go_roundg k4
                      case measure=>have:=HK1.out;have:=HJ10.out;have:=HK3.out;have:=HK4.out;omega
                      case rel=>exact ⟨(((rd t215 (rd (zAE l0_2 x10_3) x11_4)) == x8_1)),(wrap64 (x11_4 + 1)),qr,qr,H',⟨by have:=HK1.out;have:=HJ10.out;have:=HK3.out;have:=HK4.out;omega⟩,⟨qR HO_4⟩,⟨qR HO_6⟩,⟨qk BK214⟩,⟨qb⟩⟩
                     ·nomatch H
                    ·nomatch H
                   ·nomatch H
                  ·have H':=zA H;clear H;have hcz30_0:=qx BK214 0;have hcz30_1:=qx BK214 1;have hcz30_2:=qx BK214 2;have hcz30_3:=qx BK214 3;have hcz30_4:=qx BK214 4;have hfz30_0:=zJ BK214.out;have p225:0 ≤ (x10_3:Int):=qd;have q225:x10_3 < (l0_2.length:Int):=qd;obtain ⟨ad225,A225_0,c225_0,e225,hx225_0,hl225_0,hi225_0⟩:=zAW HR0_2.out x10_3 p225 q225;cases e225;replace hx225_0:=qy HB hx225_0;have HR225_0:=zA hi225_0;have HC225_0:=zA hl225_0;clear hi225_0 hl225_0;replace p225:=qT p225;replace q225:=qT q225;have p226:0 ≤ (x10_3:Int):=qd;have q226:x10_3 < (t215.length:Int):=qd;(try (obtain ⟨A_,c_,e_⟩:=Kd.R_slice HO_4.out;subst e_));obtain ⟨ad226,e226,hx226_0⟩:=Kd.at_int (Kd.R_reads' HO_4.out).2.2 x10_3 p226 q226;cases e226;replace p226:=qT p226;replace q226:=qT q226;go_wp2;go_roundg k4
                   case measure=>have:=HK1.out;have:=HJ10.out;have:=HK3.out;have:=HK4.out;omega
                   case rel=>exact ⟨(false),(wrap64 (x11_4 + 1)),qr,qr,H',⟨by have:=HK1.out;have:=HJ10.out;have:=HK3.out;have:=HK4.out;omega⟩,⟨qR HO_4⟩,⟨qR HO_6⟩,⟨qk BK214⟩,⟨qb⟩⟩
                 ·nomatch H
               ·have H':=zA H;clear H;have hcz31_0:=qx BK214 0;have hcz31_1:=qx BK214 1;have hcz31_2:=qx BK214 2;have hcz31_3:=qx BK214 3;have hcz31_4:=qx BK214 4;have hfz31_0:=zJ BK214.out;have p225:0 ≤ (x10_3:Int):=qd;have q225:x10_3 < (l0_2.length:Int):=qd;obtain ⟨ad225,A225_0,c225_0,e225,hx225_0,hl225_0,hi225_0⟩:=zAW HR0_2.out x10_3 p225 q225;cases e225;replace hx225_0:=qy HB hx225_0;have HR225_0:=zA hi225_0;have HC225_0:=zA hl225_0;clear hi225_0 hl225_0;replace p225:=qT p225;replace q225:=qT q225;go_wp2;go_roundg k4
                case measure=>have:=HK1.out;have:=HJ10.out;have:=HK3.out;have:=HK4.out;omega
                case rel=>exact ⟨(x9_4),(wrap64 (x10_3 + 1)),qr,qr,H',⟨by have:=HK1.out;have:=HJ10.out;have:=HK3.out;have:=HK4.out;omega⟩,⟨qR HO_4⟩,⟨qR HO_6⟩,⟨qk BK214⟩,⟨qb⟩⟩
              ·nomatch H
             ·nomatch H
          ·have H':=zA H;clear H;go_wp2;go_loopg [9,12,13] k3 (fun kq v9 v12 v13 w'=>∃ (x9_4:Bool) (x12_4:Int) (x13_4:Int),v9 = .bool x9_4∧v12 = .int .i64 x12_4∧v13 = .int .i64 x13_4∧Aside0 (zAC.l3 kq t215 t219 x8_1 x9_4 x12_4 x13_4 l0_0 a0_1 l0_2 l0_3 a0_4 = some (r1,r2))∧Aside0 (kq ≤ k3)∧Aside0 (Kd.R (Kd.int .i64) 3 w' w.heap.size (fun _=>True) (.slice Ao12 t215.length co12) t215)∧Aside0 (Kd.R Kd.bool 4 w' w.heap.size (fun _=>True) v220 t219)∧Aside0 (w'.heap[gb214]? = some (.cells #[(.slice A0_0 l0_0.length c0_0),.int .i64 a0_1,(.slice A0_2 l0_2.length c0_2),(.slice A0_3 l0_3.length c0_3),.int .i64 a0_4] 26 (0,0)))∧Aside0 (Below w.heap.size w w'))
           case atStart=>exact ⟨(x9_3),(1),(0),qr,qr,qr,H',⟨Nat.le_refl _⟩,⟨qR HO_4⟩,⟨qR HO_6⟩,⟨qk BK214⟩,⟨qb⟩⟩
           case round =>
            clear H';obtain ⟨x9_4,x12_4,x13_4,rfl,rfl,rfl,HA,HK4,HO_4,HO_6,BK214,HB⟩:=hrel;cases gk with
            | zero=>exact absurd HA.out (by simp [zAC.l3])
            | succ k4 =>
             have H:=HA.out;clear HA;simp only [zAC.l3] at H;rcases qj H with ⟨c32b0,H⟩|⟨c32b0,H⟩
             ·have H':=zA H;clear H;have hcz33_0:=qx BK214 0;have hcz33_1:=qx BK214 1;have hcz33_2:=qx BK214 2;have hcz33_3:=qx BK214 3;have hcz33_4:=qx BK214 4;have hfz33_0:=zJ BK214.out;go_wp2;go_loopg [14,15] k4 (fun kq v14 v15 w'=>∃ (x14_5:Bool) (x15_5:Int),v14 = .bool x14_5∧v15 = .int .i64 x15_5∧Aside0 (zAC.l4 kq t215 t219 x8_1 x9_4 x12_4 x13_4 x14_5 x15_5 l0_0 a0_1 l0_2 l0_3 a0_4 = some (r1,r2))∧Aside0 (kq ≤ k4)∧Aside0 (Kd.R (Kd.int .i64) 3 w' w.heap.size (fun _=>True) (.slice Ao12 t215.length co12) t215)∧Aside0 (Kd.R Kd.bool 4 w' w.heap.size (fun _=>True) v220 t219)∧Aside0 (w'.heap[gb214]? = some (.cells #[(.slice A0_0 l0_0.length c0_0),.int .i64 a0_1,(.slice A0_2 l0_2.length c0_2),(.slice A0_3 l0_3.length c0_3),.int .i64 a0_4] 26 (0,0)))∧Aside0 (Below w.heap.size w w'))
              case atStart=>exact ⟨(false),(0),qr,qr,H',⟨Nat.le_refl _⟩,⟨qR HO_4⟩,⟨qR HO_6⟩,⟨qk BK214⟩,⟨qb⟩⟩
              case round =>
               clear H';obtain ⟨x14_5,x15_5,rfl,rfl,HA,HK5,HO_4,HO_6,BK214,HB⟩:=hrel;cases gk with
               | zero=>exact absurd HA.out (by simp [zAC.l4])
               | succ k5 =>
                have H:=HA.out;clear HA;simp only [zAC.l4] at H;rcases qj H with ⟨c34b0,H⟩|⟨c34b0,H⟩
                ·by_cases c35:x14_5 = true
                 ·subst c35;rw [if_pos rfl] at H
                  have H':=zA H;clear H;go_wp2;go_roundg k5
                  case measure=>have:=HK1.out;have:=HJ10.out;have:=HK3.out;have:=HK4.out;have:=HK5.out;omega
                  case rel=>exact ⟨(true),(wrap64 (x15_5 + 1)),qr,qr,H',⟨by have:=HK1.out;have:=HJ10.out;have:=HK3.out;have:=HK4.out;have:=HK5.out;omega⟩,⟨qR HO_4⟩,⟨qR HO_6⟩,⟨qk BK214⟩,⟨qb⟩⟩
                 ·replace c35:=Bool.eq_false_iff.mpr c35;subst c35;rw [if_neg (show ¬ (false = true) by decide)] at H
                  rcases qj H with ⟨c36b0,H⟩|⟨c36,H⟩
                  ·rcases qE H with ⟨c37b0,c37b1,H⟩|⟨c37,c37b0,c37b1,H⟩
                   ·rcases qj H with ⟨c38b0,H⟩|⟨c38,H⟩
                    ·by_cases c39:x12_4 = 0
                     ·rw [if_pos c39] at H;nomatch H
                     ·rw [if_neg c39] at H;have c39b0:(x12_4 == 0) = false:=beq_eq_false_iff_ne.mpr c39;have c39b1:(x12_4 != 0) = true:=bne_iff_ne.mpr c39;have H':=zA H;clear H;have p230:0 ≤ (x15_5:Int):=qd;have q230:x15_5 < (t215.length:Int):=qd;(try (obtain ⟨A_,c_,e_⟩:=Kd.R_slice HO_4.out;subst e_));obtain ⟨ad230,e230,hx230_0⟩:=Kd.at_int (Kd.R_reads' HO_4.out).2.2 x15_5 p230 q230;cases e230;replace p230:=qT p230;replace q230:=qT q230;have hcz40_0:=qx BK214 0;have hcz40_1:=qx BK214 1;have hcz40_2:=qx BK214 2;have hcz40_3:=qx BK214 3;have hcz40_4:=qx BK214 4;have hfz40_0:=zJ BK214.out;have p231:0 ≤ (x15_5:Int):=qd;have q231:x15_5 < (l0_3.length:Int):=qd;obtain ⟨ad231,e231,hx231_0⟩:=Kd.at_int (qW HR0_3 HB) x15_5 p231 q231;cases e231;replace p231:=qT p231;replace q231:=qT q231;go_wp2;go_roundg k5
                      case measure=>have:=HK1.out;have:=HJ10.out;have:=HK3.out;have:=HK4.out;have:=HK5.out;omega
                      case rel=>exact ⟨(((Int.tmod (wrap64 (Int.tdiv (rd l0_3 x15_5) x12_4)) 2) == 1)),(wrap64 (x15_5 + 1)),qr,qr,H',⟨by have:=HK1.out;have:=HJ10.out;have:=HK3.out;have:=HK4.out;have:=HK5.out;omega⟩,⟨qR HO_4⟩,⟨qR HO_6⟩,⟨qk BK214⟩,⟨qb⟩⟩
                    ·nomatch H
                   ·have H':=zA H;clear H;have p230:0 ≤ (x15_5:Int):=qd;have q230:x15_5 < (t215.length:Int):=qd;(try (obtain ⟨A_,c_,e_⟩:=Kd.R_slice HO_4.out;subst e_));obtain ⟨ad230,e230,hx230_0⟩:=Kd.at_int (Kd.R_reads' HO_4.out).2.2 x15_5 p230 q230;cases e230;replace p230:=qT p230;replace q230:=qT q230;go_wp2;go_roundg k5
                    case measure=>have:=HK1.out;have:=HJ10.out;have:=HK3.out;have:=HK4.out;have:=HK5.out;omega
                    case rel=>exact ⟨(false),(wrap64 (x15_5 + 1)),qr,qr,H',⟨by have:=HK1.out;have:=HJ10.out;have:=HK3.out;have:=HK4.out;have:=HK5.out;omega⟩,⟨qR HO_4⟩,⟨qR HO_6⟩,⟨qk BK214⟩,⟨qb⟩⟩
                  ·nomatch H
                ·by_cases c41:x9_4 = true
                 ·subst c41;rw [if_pos rfl] at H
                  have H':=zA H;clear H;go_wp2;go_roundg k5
                  case measure=>have:=HK1.out;have:=HJ10.out;have:=HK3.out;have:=HK4.out;have:=HK5.out;omega
                  case rel=>exact ⟨(x14_5),(wrap64 (x12_4 * 2)),(wrap64 (x13_4 + 1)),qr,qr,qr,H',⟨by have:=HK1.out;have:=HJ10.out;have:=HK3.out;have:=HK4.out;have:=HK5.out;omega⟩,⟨qR HO_4⟩,⟨qR HO_6⟩,⟨qk BK214⟩,⟨qb⟩⟩
                 ·replace c41:=Bool.eq_false_iff.mpr c41;subst c41;rw [if_neg (show ¬ (false = true) by decide)] at H
                  have H':=zA H;clear H;go_wp2;go_roundg k5
                  case measure=>have:=HK1.out;have:=HJ10.out;have:=HK3.out;have:=HK4.out;have:=HK5.out;omega
                  case rel=>exact ⟨(false),(wrap64 (x12_4 * 2)),(wrap64 (x13_4 + 1)),qr,qr,qr,H',⟨by have:=HK1.out;have:=HJ10.out;have:=HK3.out;have:=HK4.out;have:=HK5.out;omega⟩,⟨qR HO_4⟩,⟨qR HO_6⟩,⟨qk BK214⟩,⟨qb⟩⟩
             ·by_cases c42:x9_4 = true
              ·subst c42;rw [if_pos rfl] at H
               obtain ⟨rfl,rfl⟩:=qP H;have hcz43_0:=qx BK214 0;have hcz43_1:=qx BK214 1;have hcz43_2:=qx BK214 2;have hcz43_3:=qx BK214 3;have hcz43_4:=qx BK214 4;have hfz43_0:=zJ BK214.out;go_wp2;go_ret2;exact ⟨qe,qb⟩
              ·replace c42:=Bool.eq_false_iff.mpr c42;subst c42;rw [if_neg (show ¬ (false = true) by decide)] at H
               have H':=zA H;clear H;have hcz44_0:=qx BK214 0;have hcz44_1:=qx BK214 1;have hcz44_2:=qx BK214 2;have hcz44_3:=qx BK214 3;have hcz44_4:=qx BK214 4;have hfz44_0:=zJ BK214.out;go_wp2;go_roundg k4
               case measure=>have:=HK1.out;have:=HJ10.out;have:=HK3.out;have:=HK4.out;omega
               case rel=>exact ⟨(wrap64 (x8_1 + 1)),qr,H',⟨by have:=HK1.out;have:=HJ10.out;have:=HK3.out;have:=HK4.out;omega⟩,⟨qR HO_4⟩,⟨qR HO_6⟩,⟨qk BK214⟩,⟨qb⟩⟩
    ·obtain ⟨rfl,rfl⟩:=qP H;obtain ⟨Ao45,co45,eo45⟩:=Kd.R_slice HO_4.out;subst eo45;go_wp2;go_ret2;exact ⟨qe,qb⟩
 ·obtain ⟨rfl,rfl⟩:=qP H;go_enter Try.func6,Try.ntmps6;go_wp2_with (first|((with_reducible refine zV (N:=1) rfl ?_);refine bQ 1 (cs:=#[.slice A0_0 l0_0.length c0_0,.int .i64 a0_1,.slice A0_2 l0_2.length c0_2,.slice A0_3 l0_3.length c0_3,.int .i64 a0_4]) (t:=26) ?_;intro gb214 hg w46 BK214 hb;have GW214:=zA (qg hg);replace HB:=zA (zH qb hb);clear hb hg;have hcz47_0:=qx BK214 0;have hcz47_1:=qx BK214 1;have hcz47_2:=qx BK214 2;have hcz47_3:=qx BK214 3;have hcz47_4:=qx BK214 4;have hfz47_0:=zJ BK214.out)|((with_reducible refine zU (f:=19) rfl ?_);refine gL (some 18) Try.func19 #[.agg #[.slice A0_0 l0_0.length c0_0,.int .i64 a0_1,.slice A0_2 l0_2.length c0_2,.slice A0_3 l0_3.length c0_3,.int .i64 a0_4]] ?_;(with_reducible refine (zAL.calls k _ _ l0_0 a0_1 _ _ l0_2 _ _ l0_3 a0_4 t215 t218 _ (qc HR0_0) HC0_0.out (qc HR0_2) HC0_2.out (qc HR0_3) HC0_3.out A2.out).mono ?_);rintro e w48 ⟨v216,rfl,ho0,hb⟩;refine ⟨_,rfl,?_⟩;have HO217:=zA (Kd.R_lower ho0 qs);replace BK214:=qK BK214 hb;replace HB:=zA (zH qb hb);clear ho0 hb));go_ret2;exact ⟨qe,qb⟩
end Go.Proofs.Ytkcghbfmigdomaa.Q
