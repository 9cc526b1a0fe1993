import Derived.Test.YtgdijfhdpgdanaaGreatDoorKProductBehindsG36
namespace Go.Proofs.YtgdijfhdpgdanaaGreatDoor.B
open Go.Proofs.YtgdijfhdpgdanaaGreatDoor.Al
open Option renaming bind_eq_some_iff → zb
open Go.Proofs.YtgdijfhdpgdanaaGreatDoorW.PrintWords renaming below_step → zH, gate_callee → zU, blk_frozen → zJ, gate_dst → zV, below_drew1 → zE, blk_cell → zI, blk_alloc → zK, blk_drew → zM
open Go.World renaming block_lt_of_cell? → zB
open List renaming setIfInBounds_toArray → zX, set_cons_zero → zY, set_cons_succ → zZ
open Go.Proofs.YtgdijfhdpgdanaaGreatDoor.Sq Go.RowKit Go.Proofs.YtgdijfhdpgdanaaGreatDoorW.PrintWords Go.Proofs.YtgdijfhdpgdanaaGreatDoorW.PrintLast Go.Proofs.YtgdijfhdpgdanaaGreatDoorW.PrintMore
attribute [local go_sem] max2_int min2_int max_two min_two max_three min_three max_four min_four
set_option linter.unusedVariables false
set_option linter.unusedSimpArgs false
def zAf.l0:Nat → List (S96) → List Int → Int → Option (List Int × Int)
 | 0,_,_,_=>none
 | k + 1,x0,x7,x8=>if x8 < (x0.length:Int) then (if 0 ≤ x8 then ((zA1.f ((zAI x0 x8).f0)).bind fun t563=>(if t563 = true then (if x7.length < 17592186044416 then (zAf.l0 k x0 (x7 ++ [x8]) (wrap64 (x8 + 1))) else (none)) else (zAf.l0 k x0 x7 (wrap64 (x8 + 1))))) else (none)) else (some (x7,0))
def zAf.f (k:Nat) (l0:List (S96)) (a1:Int):Option (List Int × Int):=(zAH.f k l0 a1).bind fun t561=>(if t561 = 0 then (zAf.l0 k l0 ([]:List Int) 0) else (some (([]:List Int),t561)))
theorem zAf.mono_l:∀ k,(∀ y0 y1 y2,LeO (zAf.l0 k y0 y1 y2) (zAf.l0 (k + 1) y0 y1 y2))
 | 0=>fun _ _ _ r h=>by simp [zAf.l0] at h
 | k + 1=>by
  have ih0:=zAf.mono_l k
  ·intro y0 y1 y2
   unfold zAf.l0
   exact qM @zAH.mono
theorem zAf.mono:∀ a0 a1 k,LeO (zAf.f k a0 a1) (zAf.f (k + 1) a0 a1):=by
 intro a0 a1 k;have ih0:=zAf.mono_l k;unfold zAf.f;exact qM @zAH.mono
set_option maxHeartbeats 8000000 in
set_option maxRecDepth 100000 in
theorem zAf.calls (k:Nat) (A0:Option Addr) (c0:Nat) (l0:List (S96)) (a1:Int) (r1:List Int) (r2:Int) (w:World) (hr0:Kd.C k96 w A0 l0.length l0) (hc0:l0.length ≤ c0) (h:zAf.f k l0 a1 = some (r1,r2)) :
  Calls Tryz.prog 43 #[.slice A0 l0.length c0,.int .i64 a1] w fun e w'=>∃ v0_:Value,e = .returned (.tuple #[v0_,.int .i64 r2])∧Kd.R (Kd.int .i64) 3 w' w.heap.size (fun _=>True) v0_ r1∧Below w.heap.size w w':=by
 have HR0:=zA hr0;have HC0:=zA hc0;clear hr0 hc0;have HB:=zA (Below.refl w.heap.size w);have H:((zAH.f k l0 a1).bind fun t561=>(if t561 = 0 then (zAf.l0 k l0 ([]:List Int) 0) else (some (([]:List Int),t561)))) = some (r1,r2):=h;clear h;replace H:=zb.mp H;obtain ⟨t561,A30,H⟩:=H;(try dsimp only at H);have A3:=zA A30;clear A30;rcases qE H with ⟨c4b0,c4b1,H⟩|⟨c4,c4b0,c4b1,H⟩
 ·have H':=zA H;clear H;go_enter Tryz.func43,Tryz.ntmps43;go_wp2_with (first|((with_reducible refine zU (f:=62) rfl ?_);refine gL (some 11) Tryz.func62 #[.slice A0 l0.length c0,.int .i64 a1] ?_;(with_reducible refine (zAH.calls k _ _ l0 a1 t561 _ (qu HR0.out) HC0.out A3.out).mono ?_);rintro e w5 ⟨rfl,hb⟩;refine ⟨_,rfl,?_⟩;replace HB:=zA (zH qb hb);clear hb));go_loopg [7,8] k (fun kq v7 v8 w'=>∃ (x7_1:List Int) (x8_1:Int),v8 = .int .i64 x8_1∧Aside0 (zAf.l0 kq l0 x7_1 x8_1 = some (r1,r2))∧Aside0 (kq ≤ k)∧Aside0 (Kd.R (Kd.int .i64) 3 w' w.heap.size (fun _=>True) v7 x7_1)∧Aside0 (Below w.heap.size w w'))
  case atStart=>exact ⟨(([]:List Int)),(0),qr,H',⟨Nat.le_refl _⟩,⟨ql⟩,⟨qb⟩⟩
  case round =>
   clear H';obtain ⟨x7_1,x8_1,rfl,HA,HK1,HO_7,HB⟩:=hrel;cases gk with
   | zero=>exact absurd HA.out (by simp [zAf.l0])
   | succ k1 =>
    have H:=HA.out;clear HA;simp only [zAf.l0] at H;rcases qj H with ⟨c6b0,H⟩|⟨c6b0,H⟩
    ·rcases qj H with ⟨c7b0,H⟩|⟨c7,H⟩
     ·replace H:=zb.mp H;obtain ⟨t563,A80,H⟩:=H;(try dsimp only at H);have A8:=zA A80;clear A80;by_cases c9:t563 = true
      ·subst c9;rw [if_pos rfl] at H
       by_cases c10:x7_1.length < 17592186044416
       ·rw [if_pos c10] at H;have LMc10:=zA c10;clear c10;generalize hy564:(x7_1 ++ [x8_1]) = y564 at H;replace hy564:=hy564.symm
        have Ny564:=zA hy564;clear hy564;have H':=zA H;clear H;have p562:0 ≤ (x8_1:Int):=qd;have q562:x8_1 < (l0.length:Int):=qd;obtain ⟨ad562,e562,hx562_0,hx562_1⟩:=zA6 (qW HR0 HB) x8_1 p562 q562;cases e562;replace p562:=qT p562;replace q562:=qT q562;go_wp2_with (first|((with_reducible refine zU (f:=69) rfl ?_);refine gL (some 26) Tryz.func69 #[.int .i64 ((zAI l0 x8_1).f0)] ?_;(with_reducible refine (zA1.calls ((zAI l0 x8_1).f0) true _ A8.out).mono ?_);rintro e w' ⟨rfl,⟨nd,rfl⟩⟩;refine ⟨_,rfl,?_⟩)|((with_reducible refine gate_builtin (b:=.append) (xs:=#[.tmp 27,.tmp 29]) rfl ?_);at_builtin;refine Kd.R_append (Kd.int .i64) (w0:=w) w.heap.size rfl (.tmp 27) (.tmp 29) 39 3 (.int .i64 0) 8 rfl Tryz.underlying39 info3 rfl (by decide) (by omega) u7 x7_1 x8_1 [.int .i64 x8_1] (fun _=>True) (fun _=>False) rfl rfl rfl (fun _ hk=>hk.elim) (fun _ _=>trivial) (qR HO_7) qb qs (qo LMc10) ?_;intro v565 w11 ho hb hg hat;rw [← Ny564.out] at ho;replace HB:=zA (hb);have HO566:=zA (ho);clear HO_7;clear ho hb hg hat));go_roundg k1
        case measure=>have:=HK1.out;omega
        case rel=>exact ⟨(y564),(wrap64 (x8_1 + 1)),qr,H',⟨qo HK1⟩,⟨qR HO566⟩,⟨qb⟩⟩
       ·rw [if_neg c10] at H;nomatch H
      ·replace c9:=Bool.eq_false_iff.mpr c9;subst c9;rw [if_neg (show ¬ (false = true) by decide)] at H
       have H':=zA H;clear H;have p562:0 ≤ (x8_1:Int):=qd;have q562:x8_1 < (l0.length:Int):=qd;obtain ⟨ad562,e562,hx562_0,hx562_1⟩:=zA6 (qW HR0 HB) x8_1 p562 q562;cases e562;replace p562:=qT p562;replace q562:=qT q562;go_wp2_with (first|((with_reducible refine zU (f:=69) rfl ?_);refine gL (some 26) Tryz.func69 #[.int .i64 ((zAI l0 x8_1).f0)] ?_;(with_reducible refine (zA1.calls ((zAI l0 x8_1).f0) false _ A8.out).mono ?_);rintro e w' ⟨rfl,⟨nd,rfl⟩⟩;refine ⟨_,rfl,?_⟩));go_roundg k1
       case measure=>have:=HK1.out;omega
       case rel=>exact ⟨(x7_1),(wrap64 (x8_1 + 1)),qr,H',⟨qo HK1⟩,⟨qR HO_7⟩,⟨qb⟩⟩
     ·nomatch H
    ·obtain ⟨rfl,rfl⟩:=qP H;go_wp2;go_ret2;exact ⟨_,qe,qR HO_7,qb⟩
 ·obtain ⟨rfl,rfl⟩:=qP H;go_enter Tryz.func43,Tryz.ntmps43;go_wp2_with (first|((with_reducible refine zU (f:=62) rfl ?_);refine gL (some 11) Tryz.func62 #[.slice A0 l0.length c0,.int .i64 a1] ?_;(with_reducible refine (zAH.calls k _ _ l0 a1 t561 _ (qu HR0.out) HC0.out A3.out).mono ?_);rintro e w12 ⟨rfl,hb⟩;refine ⟨_,rfl,?_⟩;replace HB:=zA (zH qb hb);clear hb));go_ret2;exact ⟨_,qe,ql,qb⟩
def zAY.l0:Nat → List Int → Int → Int → Option (Int)
 | 0,_,_,_=>none
 | k + 1,x3,x5,x6=>if x6 < (x3.length:Int) then (zAY.l0 k x3 (wrap64 (x5 * 2)) (wrap64 (x6 + 1))) else (some x5)
def zAY.f (k:Nat) (l0_0:List (S113)) (l0_1:List (S102)) (l0_2:List (List (S96))) (l0_3:List (S96)):Option (Int):=(zAf.f k l0_3 (l0_2.length:Int)).bind fun bt568=>(zAY.l0 k bt568.1 1 0)
theorem zAY.mono_l:∀ k,(∀ y0 y1 y2,LeO (zAY.l0 k y0 y1 y2) (zAY.l0 (k + 1) y0 y1 y2))
 | 0=>fun _ _ _ r h=>by simp [zAY.l0] at h
 | k + 1=>by
  have ih0:=zAY.mono_l k
  ·intro y0 y1 y2
   unfold zAY.l0
   exact qM @zAf.mono
theorem zAY.mono:∀ a0 a1 a2 a3 k,LeO (zAY.f k a0 a1 a2 a3) (zAY.f (k + 1) a0 a1 a2 a3):=by
 intro a0 a1 a2 a3 k;have ih0:=zAY.mono_l k;unfold zAY.f;exact qM @zAf.mono
set_option maxHeartbeats 8000000 in
set_option maxRecDepth 100000 in
theorem zAY.calls (k:Nat) (A0_0:Option Addr) (c0_0:Nat) (l0_0:List (S113)) (A0_1:Option Addr) (c0_1:Nat) (l0_1:List (S102)) (A0_2:Option Addr) (c0_2:Nat) (l0_2:List (List (S96))) (A0_3:Option Addr) (c0_3:Nat) (l0_3:List (S96)) (r:Int) (w:World) (hr0_0:Kd.C k113 w A0_0 l0_0.length l0_0) (hc0_0:l0_0.length ≤ c0_0) (hr0_1:Kd.C k102 w A0_1 l0_1.length l0_1) (hc0_1:l0_1.length ≤ c0_1) (hr0_2:Kd.C (Kd.slice 96 k96) w A0_2 l0_2.length l0_2) (hc0_2:l0_2.length ≤ c0_2) (hr0_3:Kd.C k96 w A0_3 l0_3.length l0_3) (hc0_3:l0_3.length ≤ c0_3) (h:zAY.f k l0_0 l0_1 l0_2 l0_3 = some r) :
  Calls Tryz.prog 28 #[.agg #[.slice A0_0 l0_0.length c0_0,.slice A0_1 l0_1.length c0_1,.slice A0_2 l0_2.length c0_2,.slice A0_3 l0_3.length c0_3]] w fun e w'=>e = .returned (.int .i64 r)∧Below w.heap.size w w':=by
 have hu29:=Tryz.underlying29;have HR0_0:=zA hr0_0;have HC0_0:=zA hc0_0;clear hr0_0 hc0_0;have HR0_1:=zA hr0_1;have HC0_1:=zA hc0_1;clear hr0_1 hc0_1;have HR0_2:=zA hr0_2;have HC0_2:=zA hc0_2;clear hr0_2 hc0_2;have HR0_3:=zA hr0_3;have HC0_3:=zA hc0_3;clear hr0_3 hc0_3;have HB:=zA (Below.refl w.heap.size w);have H:((zAf.f k l0_3 (l0_2.length:Int)).bind fun bt568=>(zAY.l0 k bt568.1 1 0)) = some r:=h;clear h;replace H:=zb.mp H;obtain ⟨⟨t568,t569⟩,A20,H⟩:=H;(try dsimp only at H);have A2:=zA A20;clear A20;have H':=zA H;clear H;go_enter Tryz.func28,Tryz.ntmps28;go_wp2_with (first|((with_reducible refine zV (N:=1) rfl ?_);refine bQ 1 (cs:=#[.slice A0_0 l0_0.length c0_0,.slice A0_1 l0_1.length c0_1,.slice A0_2 l0_2.length c0_2,.slice A0_3 l0_3.length c0_3]) (t:=29) ?_;intro gb567 hg w3 BK567 hb;have GW567:=zA (qg hg);replace HB:=zA (zH qb hb);clear hb hg;obtain ⟨hcz4_0,hcz4_1,hcz4_2,hcz4_3⟩:=q4 BK567;have hfz4_0:=zJ BK567.out)|((with_reducible refine zU (f:=43) rfl ?_);refine gL (some 13) Tryz.func43 #[.slice A0_3 l0_3.length c0_3,.int .i64 (l0_2.length:Int)] ?_;(with_reducible refine (zAf.calls k _ _ l0_3 (l0_2.length:Int) t568 t569 _ (qc HR0_3) HC0_3.out A2.out).mono ?_);rintro e w5 ⟨v570,rfl,ho0,hb⟩;refine ⟨_,rfl,?_⟩;have HO571:=zA (Kd.R_lower ho0 qs);replace BK567:=qK BK567 hb;replace HB:=zA (zH qb hb);clear ho0 hb));go_loopg [5,6] k (fun kq v5 v6 w'=>∃ (x5_1:Int) (x6_1:Int),v5 = .int .i64 x5_1∧v6 = .int .i64 x6_1∧Aside0 (zAY.l0 kq t568 x5_1 x6_1 = some r)∧Aside0 (kq ≤ k)∧Aside0 (Kd.R (Kd.int .i64) 3 w' w.heap.size (fun _=>True) v570 t568)∧Aside0 (w'.heap[gb567]? = some (.cells #[(.slice A0_0 l0_0.length c0_0),(.slice A0_1 l0_1.length c0_1),(.slice A0_2 l0_2.length c0_2),(.slice A0_3 l0_3.length c0_3)] 29 (0,0)))∧Aside0 (Below w.heap.size w w'))
 case atStart=>exact ⟨(1),(0),qr,qr,H',⟨Nat.le_refl _⟩,⟨qR HO571⟩,⟨qk BK567⟩,⟨qb⟩⟩
 case round =>
  clear H';obtain ⟨x5_1,x6_1,rfl,rfl,HA,HK1,HO_3,BK567,HB⟩:=hrel;cases gk with
  | zero=>exact absurd HA.out (by simp [zAY.l0])
  | succ k1 =>
   have H:=HA.out;clear HA;simp only [zAY.l0] at H;rcases qj H with ⟨c6b0,H⟩|⟨c6b0,H⟩
   ·have H':=zA H;clear H;obtain ⟨Ao7,co7,eo7⟩:=Kd.R_slice HO_3.out;subst eo7;go_wp2;go_roundg k1
    case measure=>have:=HK1.out;omega
    case rel=>exact ⟨(wrap64 (x5_1 * 2)),(wrap64 (x6_1 + 1)),qr,qr,H',⟨qo HK1⟩,⟨qR HO_3⟩,⟨qk BK567⟩,⟨qb⟩⟩
   ·obtain rfl:=Option.some.inj H;obtain ⟨Ao8,co8,eo8⟩:=Kd.R_slice HO_3.out;subst eo8;go_wp2;go_ret;exact ⟨qe,qb⟩
def zAR.l0:Nat → Int → List Int → Int → List (S113) → List (S102) → Option (List Int × Int)
 | 0,_,_,_,_,_=>none
 | k + 1,x1,x8,x9,x573000,x573001=>if x9 < (x573000.length:Int) then ((zAZ.f k x573000 x573001 x9).bind fun t576=>(if 0 ≤ x9 then (if t576 = 0 then (none) else (if x8.length < 17592186044416 then (zAR.l0 k (Int.tmod x1 t576) (x8 ++ [wrap64 (((zAO x573000 x9).f1) + (wrap64 (Int.tdiv x1 t576)))]) (wrap64 (x9 + 1)) x573000 x573001) else (none))) else (none))) else (some (x8,0))
def zAR.f (k:Nat) (l0_0:List (S113)) (l0_1:List (S102)) (a1:Int):Option (List Int × Int):=(zAb.f k l0_0 l0_1).bind fun bt573=>(if bt573.2 = 0 then ((zAE.f a1 0 (wrap64 (bt573.1 - 1))).bind fun t575=>(if t575 = true then (zAR.l0 k a1 ([]:List Int) 0 l0_0 l0_1) else (some (([]:List Int),9)))) else (some (([]:List Int),bt573.2)))
theorem zAR.mono_l:∀ k,(∀ y0 y1 y2 y3 y4,LeO (zAR.l0 k y0 y1 y2 y3 y4) (zAR.l0 (k + 1) y0 y1 y2 y3 y4))
 | 0=>fun _ _ _ _ _ r h=>by simp [zAR.l0] at h
 | k + 1=>by
  have ih0:=zAR.mono_l k
  ·intro y0 y1 y2 y3 y4
   unfold zAR.l0
   exact qM (And.intro @zAb.mono @zAZ.mono)
theorem zAR.mono:∀ a0 a1 a2 k,LeO (zAR.f k a0 a1 a2) (zAR.f (k + 1) a0 a1 a2):=by
 intro a0 a1 a2 k;have ih0:=zAR.mono_l k;unfold zAR.f;exact qM (And.intro @zAb.mono @zAZ.mono)
def zAR.T11:Bool × List (List Nat × List Nat):=(true,[([],[]),([],[]),([1],[1]),([],[]),([2,3],[2,3]),([4],[4]),([5],[5]),([],[]),([],[]),([7,8],[7,8]),([6,9],[6,9]),([10],[10]),([0,11],[0,11]),([12,12,0,1,2,3,4,5,6,7,8,9,10,11,12],[0,12])])
def zAR.B11:List Nat:=[0,0,2,0,14,30,62,0,0,384,1022,2046,4095,8191]
theorem zAR.tab11:rtab .any (opsOf Tryz.f65 11) = zAR.T11:=by kernel_rfl
theorem zAR.bits11:waitsOk zAR.T11.2 zAR.B11 = true:=by kernel_rfl
set_option maxHeartbeats 8000000 in
set_option maxRecDepth 100000 in
theorem zAR.calls (k:Nat) (A0_0:Option Addr) (c0_0:Nat) (l0_0:List (S113)) (A0_1:Option Addr) (c0_1:Nat) (l0_1:List (S102)) (a1:Int) (r1:List Int) (r2:Int) (w:World) (hr0_0:Kd.C k113 w A0_0 l0_0.length l0_0) (hc0_0:l0_0.length ≤ c0_0) (hr0_1:Kd.C k102 w A0_1 l0_1.length l0_1) (hc0_1:l0_1.length ≤ c0_1) (h:zAR.f k l0_0 l0_1 a1 = some (r1,r2)) :
  Calls Tryz.prog 65 #[.agg #[.slice A0_0 l0_0.length c0_0,.slice A0_1 l0_1.length c0_1],.int .i64 a1] w fun e w'=>∃ v0_:Value,e = .returned (.tuple #[v0_,.int .i64 r2])∧Kd.R (Kd.int .i64) 3 w' w.heap.size (fun _=>True) v0_ r1∧Below w.heap.size w w':=by
 have hu25:=Tryz.underlying25;have HR0_0:=zA hr0_0;have HC0_0:=zA hc0_0;clear hr0_0 hc0_0;have HR0_1:=zA hr0_1;have HC0_1:=zA hc0_1;clear hr0_1 hc0_1;have HB:=zA (Below.refl w.heap.size w);have H:((zAb.f k l0_0 l0_1).bind fun bt573=>(if bt573.2 = 0 then ((zAE.f a1 0 (wrap64 (bt573.1 - 1))).bind fun t575=>(if t575 = true then (zAR.l0 k a1 ([]:List Int) 0 l0_0 l0_1) else (some (([]:List Int),9)))) else (some (([]:List Int),bt573.2)))) = some (r1,r2):=h;clear h;replace H:=zb.mp H;obtain ⟨⟨t573,t574⟩,A30,H⟩:=H;(try dsimp only at H);have A3:=zA A30;clear A30;rcases qE H with ⟨c4b0,c4b1,H⟩|⟨c4,c4b0,c4b1,H⟩
 ·replace H:=zb.mp H;obtain ⟨t575,A50,H⟩:=H;(try dsimp only at H);have A5:=zA A50;clear A50;by_cases c6:t575 = true
  ·subst c6;rw [if_pos rfl] at H
   have H':=zA H;clear H;go_enter Tryz.func65,Tryz.ntmps65;go_wp2_with (first|((with_reducible refine zV (N:=2) rfl ?_);refine bQ 2 (cs:=#[.slice A0_0 l0_0.length c0_0,.slice A0_1 l0_1.length c0_1]) (t:=25) ?_;intro gb572 hg w7 BK572 hb;have GW572:=zA (qg hg);replace HB:=zA (zH qb hb);clear hb hg;obtain ⟨hcz8_0,hcz8_1⟩:=q2 BK572;have hfz8_0:=zJ BK572.out)|((with_reducible refine zU (f:=27) rfl ?_);refine gL (some 13) Tryz.func27 #[.agg #[.slice A0_0 l0_0.length c0_0,.slice A0_1 l0_1.length c0_1]] ?_;(with_reducible refine (zAb.calls k _ _ l0_0 _ _ l0_1 t573 t574 _ (qc HR0_0) HC0_0.out (qc HR0_1) HC0_1.out A3.out).mono ?_);rintro e w9 ⟨rfl,hb⟩;refine ⟨_,rfl,?_⟩;replace BK572:=qK BK572 hb;replace HB:=zA (zH qb hb);clear hb)|((with_reducible refine zU (f:=29) rfl ?_);refine gL (some 22) Tryz.func29 #[.int .i64 a1,.int .i64 0,.int .i64 (wrap64 (t573 - 1))] ?_;(with_reducible refine (zAE.calls a1 0 (wrap64 (t573 - 1)) true _ A5.out).mono ?_);rintro e w' ⟨rfl,⟨nd,rfl⟩⟩;refine ⟨_,rfl,?_⟩));go_loopg [1,8,9] k (fun kq v1 v8 v9 w'=>∃ (x1_1:Int) (x8_1:List Int) (x9_1:Int),v1 = .int .i64 x1_1∧v9 = .int .i64 x9_1∧Aside0 (zAR.l0 kq x1_1 x8_1 x9_1 l0_0 l0_1 = some (r1,r2))∧Aside0 (kq ≤ k)∧Aside0 (Kd.R (Kd.int .i64) 3 w' w.heap.size (fun _=>True) v8 x8_1)∧Aside0 (w'.heap[gb572]? = some (.cells #[(.slice A0_0 l0_0.length c0_0),(.slice A0_1 l0_1.length c0_1)] 25 (0,0)))∧Aside0 (Below w.heap.size w w'))
   case atStart=>exact ⟨(a1),(([]:List Int)),(0),qr,qr,H',⟨Nat.le_refl _⟩,⟨ql⟩,⟨qk BK572⟩,⟨qb⟩⟩
   case round =>
    clear H';obtain ⟨x1_1,x8_1,x9_1,rfl,rfl,HA,HK1,HO_8,BK572,HB⟩:=hrel;cases gk with
    | zero=>exact absurd HA.out (by simp [zAR.l0])
    | succ k1 =>
     have H:=HA.out;clear HA;simp only [zAR.l0] at H;rcases qj H with ⟨c10b0,H⟩|⟨c10b0,H⟩
     ·replace H:=zb.mp H;obtain ⟨t576,A110,H⟩:=H;(try dsimp only at H);have A11:=zA A110;clear A110;rcases qj H with ⟨c12b0,H⟩|⟨c12,H⟩
      ·by_cases c13:t576 = 0
       ·rw [if_pos c13] at H;nomatch H
       ·rw [if_neg c13] at H;have c13b0:(t576 == 0) = false:=beq_eq_false_iff_ne.mpr c13;have c13b1:(t576 != 0) = true:=bne_iff_ne.mpr c13;by_cases c14:x8_1.length < 17592186044416
        ·rw [if_pos c14] at H;have LMc14:=zA c14;clear c14;generalize hy578:(x8_1 ++ [wrap64 (((zAO l0_0 x9_1).f1) + (wrap64 (Int.tdiv x1_1 t576)))]) = y578 at H;replace hy578:=hy578.symm
         have Ny578:=zA hy578;clear hy578;have H':=zA H;clear H;obtain ⟨hcz15_0,hcz15_1⟩:=q2 BK572;have hfz15_0:=zJ BK572.out;(try go_wp2_with (first|((with_reducible refine zU (f:=64) rfl ?_);refine gL (some 33) Tryz.func64 #[.agg #[.slice A0_0 l0_0.length c0_0,.slice A0_1 l0_1.length c0_1],.int .i64 x9_1] ?_;(with_reducible refine (zAZ.calls k1 _ _ l0_0 _ _ l0_1 x9_1 t576 _ (qc HR0_0) HC0_0.out (qc HR0_1) HC0_1.out A11.out).mono ?_);rintro e w16 ⟨rfl,hb⟩;refine ⟨_,rfl,?_⟩;replace HO_8:=zA (Kd.R_below (qR HO_8) hb);replace BK572:=qK BK572 hb;replace HB:=zA (zH qb hb);clear hb)));replace HO_8:=zA (Kd.R_drew HO_8.out);replace BK572:=zA (zM BK572.out);replace HB:=zA (zE HB.out);have p577:0 ≤ (x9_1:Int):=qd;have q577:x9_1 < (l0_0.length:Int):=qd;obtain ⟨ad577,e577,hx577_0,hx577_1,hx577_2,hx577_3⟩:=zBO HR0_0.out x9_1 p577 q577;have hw577_3:=hx577_3;have hw577_2:=hx577_2;have hw577_1:=hx577_1;have hw577_0:=hx577_0;cases e577;replace hx577_0:=qy HB hx577_0;replace hx577_1:=qy HB hx577_1;replace hx577_2:=qy HB hx577_2;replace hx577_3:=qy HB hx577_3;replace p577:=qT p577;replace q577:=qT q577;refine start_ (n:=14) (S:=fun w'=>w'.cell? ⟨gb572,0,none⟩ = some (.slice (some ad577) l0_0.length c0_0)∧w'.cell? ⟨gb572,1,none⟩ = some (.slice A0_1 l0_1.length c0_1)∧w'.cell? (ad577.add ((x9_1).toNat * 4)) = some (.string ((zAO l0_0 x9_1).f0))∧w'.cell? ⟨(ad577.add ((x9_1).toNat * 4)).block,(ad577.add ((x9_1).toNat * 4)).off + 1,none⟩ = some (.int .i64 ((zAO l0_0 x9_1).f1))∧w'.cell? ⟨(ad577.add ((x9_1).toNat * 4)).block,(ad577.add ((x9_1).toNat * 4)).off + 2,none⟩ = some (.int .i64 ((zAO l0_0 x9_1).f2))∧w'.cell? ⟨(ad577.add ((x9_1).toNat * 4)).block,(ad577.add ((x9_1).toNat * 4)).off + 3,none⟩ = some (.int .i64 ((zAO l0_0 x9_1).f3))) (ds:=[]) #[false,false,false,false,false,false,false,false,false,false,false,false,false,false] (by kernel_rfl) rfl rfl ⟨(zI BK572.out 0).trans rfl,(zI BK572.out 1).trans rfl,(qy HB hw577_0 :),(qy HB hw577_1 :),(qy HB hw577_2 :),(qy HB hw577_3 :)⟩ (fun hHeld=>?_);refine with_tabW zAR.tab11 zAR.bits11 (fun HT_ HW_=>?_);generalize w16.drew = w17 at HO_8 BK572 HB hx577_0 hx577_1 hx577_2 hx577_3 hHeld ⊢;refine pq 0 (some 34) HT_ ?_;refine pq 1 (some 35) HT_ ?_;refine pq 3 (some 37) HT_ ?_;refine pq 7 (some 41) HT_ ?_;refine pq 8 (some 42) HT_ ?_;refine pq 9 (some 43) HT_ ?_;refine tq 2 (some 36) HT_ HW_ hHeld ?_;refine pq 4 (some 38) HT_ ?_;refine pq 5 (some 39) HT_ ?_;refine tq 6 (some 40) HT_ HW_ hHeld ?_;refine pq 10 (some 44) HT_ ?_;refine oq 11 (some 45) HT_ (fun K hK=>?_);refine value_ (w1:=?_) (v:=?_) (by rfl) rfl ?_ ?_;rotate_left 2
         ·go_simp;constructor
          ·rfl
          ·rfl
         refine hK.out _ _ ⟨(zI (zK BK572.out _) 0).trans rfl,(zI (zK BK572.out _) 1).trans rfl,(World.cell?_alloc_lt _ _ _ (zB _ _ ((qy HB hw577_0 :)))).trans ((qy HB hw577_0 :)),(World.cell?_alloc_lt _ _ _ (zB _ _ ((qy HB hw577_1 :)))).trans ((qy HB hw577_1 :)),(World.cell?_alloc_lt _ _ _ (zB _ _ ((qy HB hw577_2 :)))).trans ((qy HB hw577_2 :)),(World.cell?_alloc_lt _ _ _ (zB _ _ ((qy HB hw577_3 :)))).trans ((qy HB hw577_3 :))⟩ (fun hHeld=>?_);clear hK K;refine norm_ (a':=?_) ?_ ?_;rotate_left
         ·show Act.put _ (some 45) _ = _;simp only [Act.put,zX,zY,zZ,i64_w,i32_w];rfl
         refine oq 12 (some 46) HT_ (fun K hK=>?_);refine Kd.R_append_step (Kd.int .i64) (w0:=w) w.heap.size (by rfl) (.tmp 34) (.tmp 45) 39 3 (.int .i64 0) 8 rfl Tryz.underlying39 info3 rfl (by decide) (by omega) u8 x8_1 (wrap64 (((zAO l0_0 x9_1).f1) + (wrap64 (Int.tdiv x1_1 t576)))) [.int .i64 (wrap64 (((zAO l0_0 x9_1).f1) + (wrap64 (Int.tdiv x1_1 t576))))] (fun _=>True) (fun _=>False) rfl rfl ?aP (fun _ hk=>hk.elim) ?aF ?aO ?aB ?aS ?aL ?_;(case aP=>exact rfl);(case aB=>exact qb);(case aF=>exact (fun _ _=>trivial));(case aO=>exact (qR HO_8));(case aS=>exact qs);(case aL=>have:=LMc14.out;omega);intro v579 w18 ho hb hg hat;rw [← Ny578.out] at ho;replace BK572:=zA (blk_grown (g:=gb572) (o:=.cells #[.slice (some ad577) l0_0.length c0_0,.slice A0_1 l0_1.length c0_1] 25 (0,0)) (qk BK572) hg (Kd.R_ne HO_8.out BK572.out (by decide)));replace HB:=zA (hb);have HO580:=zA (ho);clear HO_8;clear ho hb hg hat;refine hK.out _ _ ⟨(zI BK572.out 0).trans rfl,(zI BK572.out 1).trans rfl,(qy HB hw577_0 :),(qy HB hw577_1 :),(qy HB hw577_2 :),(qy HB hw577_3 :)⟩ (fun hHeld=>?_);clear hK K;refine norm_ (a':=?_) ?_ ?_;rotate_left
         ·show Act.put _ (some 46) _ = _;simp only [Act.put,zX,zY,zZ,i64_w,i32_w];rfl
         refine pq 13 (some 8) HT_ ?_;refine done_ (done_of HT_.out (by kernel_rfl)) ?_;(try go_wp2);go_roundg k1
         case measure=>have:=HK1.out;omega
         case rel=>exact ⟨(Int.tmod x1_1 t576),(y578),(wrap64 (x9_1 + 1)),qr,qr,H',⟨qo HK1⟩,⟨qR HO580⟩,⟨qk BK572⟩,⟨qb⟩⟩
        ·rw [if_neg c14] at H;nomatch H
      ·nomatch H
     ·obtain ⟨rfl,rfl⟩:=qP H;obtain ⟨hcz19_0,hcz19_1⟩:=q2 BK572;have hfz19_0:=zJ BK572.out;go_wp2;go_ret2;exact ⟨_,qe,qR HO_8,qb⟩
  ·replace c6:=Bool.eq_false_iff.mpr c6;subst c6;rw [if_neg (show ¬ (false = true) by decide)] at H
   obtain ⟨rfl,rfl⟩:=qP H;go_enter Tryz.func65,Tryz.ntmps65;go_wp2_with (first|((with_reducible refine zV (N:=2) rfl ?_);refine bQ 2 (cs:=#[.slice A0_0 l0_0.length c0_0,.slice A0_1 l0_1.length c0_1]) (t:=25) ?_;intro gb572 hg w20 BK572 hb;have GW572:=zA (qg hg);replace HB:=zA (zH qb hb);clear hb hg;obtain ⟨hcz21_0,hcz21_1⟩:=q2 BK572;have hfz21_0:=zJ BK572.out)|((with_reducible refine zU (f:=27) rfl ?_);refine gL (some 13) Tryz.func27 #[.agg #[.slice A0_0 l0_0.length c0_0,.slice A0_1 l0_1.length c0_1]] ?_;(with_reducible refine (zAb.calls k _ _ l0_0 _ _ l0_1 t573 t574 _ (qc HR0_0) HC0_0.out (qc HR0_1) HC0_1.out A3.out).mono ?_);rintro e w22 ⟨rfl,hb⟩;refine ⟨_,rfl,?_⟩;replace BK572:=qK BK572 hb;replace HB:=zA (zH qb hb);clear hb)|((with_reducible refine zU (f:=29) rfl ?_);refine gL (some 22) Tryz.func29 #[.int .i64 a1,.int .i64 0,.int .i64 (wrap64 (t573 - 1))] ?_;(with_reducible refine (zAE.calls a1 0 (wrap64 (t573 - 1)) false _ A5.out).mono ?_);rintro e w' ⟨rfl,⟨nd,rfl⟩⟩;refine ⟨_,rfl,?_⟩));go_ret2;exact ⟨_,qe,ql,qb⟩
 ·obtain ⟨rfl,rfl⟩:=qP H;go_enter Tryz.func65,Tryz.ntmps65;go_wp2_with (first|((with_reducible refine zV (N:=2) rfl ?_);refine bQ 2 (cs:=#[.slice A0_0 l0_0.length c0_0,.slice A0_1 l0_1.length c0_1]) (t:=25) ?_;intro gb572 hg w23 BK572 hb;have GW572:=zA (qg hg);replace HB:=zA (zH qb hb);clear hb hg;obtain ⟨hcz24_0,hcz24_1⟩:=q2 BK572;have hfz24_0:=zJ BK572.out)|((with_reducible refine zU (f:=27) rfl ?_);refine gL (some 13) Tryz.func27 #[.agg #[.slice A0_0 l0_0.length c0_0,.slice A0_1 l0_1.length c0_1]] ?_;(with_reducible refine (zAb.calls k _ _ l0_0 _ _ l0_1 t573 t574 _ (qc HR0_0) HC0_0.out (qc HR0_1) HC0_1.out A3.out).mono ?_);rintro e w25 ⟨rfl,hb⟩;refine ⟨_,rfl,?_⟩;replace BK572:=qK BK572 hb;replace HB:=zA (zH qb hb);clear hb));go_ret2;exact ⟨_,qe,ql,qb⟩
end Go.Proofs.YtgdijfhdpgdanaaGreatDoor.B
