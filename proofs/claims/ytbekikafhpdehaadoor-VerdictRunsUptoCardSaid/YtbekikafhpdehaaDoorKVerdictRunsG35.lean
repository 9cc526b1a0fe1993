import Derived.Test.YtbekikafhpdehaaDoorKVerdictRunsG9
import Derived.Test.YtbekikafhpdehaaDoorKVerdictRunsG20
namespace Go.Proofs.YtbekikafhpdehaaDoor.V
open Go.Proofs.YtbekikafhpdehaaDoor.Al
open Go.Proofs.YtbekikafhpdehaaDoorW.PrintWords renaming below_step → zH, blk_frozen → zJ, gate_dst → zV
open Go.Proofs.YtbekikafhpdehaaDoor.Sq
open Go.RowKit Go.Proofs.YtbekikafhpdehaaDoorW.PrintWords Go.Proofs.YtbekikafhpdehaaDoorW.PrintLast Go.Proofs.YtbekikafhpdehaaDoorW.PrintMore
attribute [local go_sem] max2_int min2_int max_two min_two max_three min_three max_four min_four
set_option linter.unusedVariables false
set_option linter.unusedSimpArgs false
def foretellref_behindVar.l0:Nat → Int → Int → List (S58) → List (S49) → Option (Int)
 | 0,_,_,_,_=>none
 | k + 1,x5,x6,x378000,x378001=>if x6 < (x378000.length:Int) then (if 0 ≤ x6 then (foretellref_behindVar.l0 k (wrap64 (x5 * (wrap64 ((wrap64 (((rd_T58 x378000 x6).f2) - ((rd_T58 x378000 x6).f1))) + 1)))) (wrap64 (x6 + 1)) x378000 x378001) else (none)) else (some x5)
def foretellref_behindVar.f (k:Nat) (l0_0:List (S58)) (l0_1:List (S49)) (a1:Int):Option (Int):=foretellref_behindVar.l0 k 1 (wrap64 (a1 + 1)) l0_0 l0_1
theorem foretellref_behindVar.mono_l:∀ k,(∀ y0 y1 y2 y3,LeO (foretellref_behindVar.l0 k y0 y1 y2 y3) (foretellref_behindVar.l0 (k + 1) y0 y1 y2 y3))
 | 0=>fun _ _ _ _ r h=>by simp [foretellref_behindVar.l0] at h
 | k + 1=>by
  have ih0:=foretellref_behindVar.mono_l k
  ·intro y0 y1 y2 y3
   unfold foretellref_behindVar.l0
   exact qL
theorem foretellref_behindVar.mono:∀ a0 a1 a2 k,LeO (foretellref_behindVar.f k a0 a1 a2) (foretellref_behindVar.f (k + 1) a0 a1 a2):=by
 intro a0 a1 a2 k;have ih0:=foretellref_behindVar.mono_l k;unfold foretellref_behindVar.f;exact qL
set_option maxHeartbeats 8000000 in
set_option maxRecDepth 100000 in
theorem foretellref_behindVar.calls (k:Nat) (A0_0:Option Addr) (c0_0:Nat) (l0_0:List (S58)) (A0_1:Option Addr) (c0_1:Nat) (l0_1:List (S49)) (a1:Int) (r:Int) (w:World) (hr0_0:Kd.C k58 w A0_0 l0_0.length l0_0) (hc0_0:l0_0.length ≤ c0_0) (hr0_1:Kd.C k49 w A0_1 l0_1.length l0_1) (hc0_1:l0_1.length ≤ c0_1) (h:foretellref_behindVar.f k l0_0 l0_1 a1 = some r) :
  Calls Tryd.prog 39 #[.agg #[.slice A0_0 l0_0.length c0_0,.slice A0_1 l0_1.length c0_1],.int .i64 a1] w fun e w'=>e = .returned (.int .i64 r)∧Below w.heap.size w w':=by
 have hu25:=Tryd.underlying25;have HR0_0:=zA hr0_0;have HC0_0:=zA hc0_0;clear hr0_0 hc0_0;have HR0_1:=zA hr0_1;have HC0_1:=zA hc0_1;clear hr0_1 hc0_1;have HB:=zA (Below.refl w.heap.size w);have H:(foretellref_behindVar.l0 k 1 (wrap64 (a1 + 1)) l0_0 l0_1) = some r:=h;clear h;have H':=zA H;clear H;go_enter Tryd.func39,Tryd.ntmps39;go_wp2_with (first|((with_reducible refine zV (N:=2) rfl ?_);refine bq 2 (cs:=#[.slice A0_0 l0_0.length c0_0,.slice A0_1 l0_1.length c0_1]) (t:=25) ?_;intro gb377 hg w3 hbox hb;have BK377:=zA (hbox);have GW377:=zA (qg hg);have GE377:=zA (qg hg);replace HB:=zA (zH qb hb);clear hb hbox hg));(repeat (go_quiet (first|((with_reducible refine zV (N:=2) rfl ?_);refine bq 2 (cs:=#[.slice A0_0 l0_0.length c0_0,.slice A0_1 l0_1.length c0_1]) (t:=25) ?_;intro gb377 hg w3 hbox hb;have BK377:=zA (hbox);have GW377:=zA (qg hg);have GE377:=zA (qg hg);replace HB:=zA (zH qb hb);clear hb hbox hg));try go_wp2_with (first|((with_reducible refine zV (N:=2) rfl ?_);refine bq 2 (cs:=#[.slice A0_0 l0_0.length c0_0,.slice A0_1 l0_1.length c0_1]) (t:=25) ?_;intro gb377 hg w3 hbox hb;have BK377:=zA (hbox);have GW377:=zA (qg hg);have GE377:=zA (qg hg);replace HB:=zA (zH qb hb);clear hb hbox hg))));go_loopg [5,6] k (fun kq v5 v6 w'=>∃ (x5_1:Int) (x6_1:Int),v5 = .int .i64 x5_1∧v6 = .int .i64 x6_1∧Aside0 (foretellref_behindVar.l0 kq x5_1 x6_1 l0_0 l0_1 = some r)∧Aside0 (kq ≤ k)∧Aside0 (w'.heap[gb377]? = some (.cells #[(.slice A0_0 l0_0.length c0_0),(.slice A0_1 l0_1.length c0_1)] 25 (0,0)))∧Aside0 (Below w.heap.size w w'))
 case atStart=>exact ⟨(1),(wrap64 (a1 + 1)),qr,qr,H',⟨Nat.le_refl _⟩,⟨qk BK377⟩,⟨qb⟩⟩
 case round =>
  clear H';obtain ⟨x5_1,x6_1,rfl,rfl,HA,HK1,BK377,HB⟩:=hrel;cases gk with
  | zero=>exact absurd HA.out (by simp [foretellref_behindVar.l0])
  | succ k1 =>
   have H:=HA.out;clear HA;simp only [foretellref_behindVar.l0] at H;rcases qj H with ⟨c4b0,H⟩|⟨c4b0,H⟩
   ·rcases qj H with ⟨c5b0,H⟩|⟨c5,H⟩
    ·have H':=zA H;clear H;have hcz6_0:=qx BK377 0;have hcz6_1:=qx BK377 1;have hfz6_0:=zJ BK377.out 0;have hfz6_1:=zJ BK377.out 1;have p378:0 ≤ (x6_1:Int):=qd;have q378:x6_1 < (l0_0.length:Int):=qd;obtain ⟨ad378,e378,hx378_0,hx378_1,hx378_2,hx378_3⟩:=at_T58 HR0_0.out x6_1 p378 q378;cases e378;replace hx378_0:=qy HB hx378_0;replace hx378_1:=qy HB hx378_1;replace hx378_2:=qy HB hx378_2;replace hx378_3:=qy HB hx378_3;replace p378:=eq_true p378;replace q378:=eq_true q378;have p379:0 ≤ (x6_1:Int):=qd;have q379:x6_1 < (l0_0.length:Int):=qd;obtain ⟨ad379,e379,hx379_0,hx379_1,hx379_2,hx379_3⟩:=at_T58 HR0_0.out x6_1 p379 q379;obtain rfl:ad378 = ad379:=(by injection e379);replace hx379_0:=qy HB hx379_0;replace hx379_1:=qy HB hx379_1;replace hx379_2:=qy HB hx379_2;replace hx379_3:=qy HB hx379_3;replace p379:=eq_true p379;replace q379:=eq_true q379;go_wp2;(repeat (go_quiet (fail);try go_wp2));go_roundg k1
     case measure=>have:=HK1.out;omega
     case rel=>exact ⟨(wrap64 (x5_1 * (wrap64 ((wrap64 (((rd_T58 l0_0 x6_1).f2) - ((rd_T58 l0_0 x6_1).f1))) + 1)))),(wrap64 (x6_1 + 1)),qr,qr,H',⟨qo HK1⟩,⟨qk BK377⟩,⟨qb⟩⟩
    ·exact absurd H (by simp)
   ·obtain rfl:=Option.some.inj H;have hcz7_0:=qx BK377 0;have hcz7_1:=qx BK377 1;have hfz7_0:=zJ BK377.out 0;have hfz7_1:=zJ BK377.out 1;go_wp2;(repeat (go_quiet (fail);try go_wp2));go_ret;exact ⟨qe,qb⟩
end Go.Proofs.YtbekikafhpdehaaDoor.V
namespace Go.Proofs.YtbekikafhpdehaaDoor.V
open Go.Proofs.YtbekikafhpdehaaDoor.Al
open Option renaming bind_eq_some_iff → zb
open Go.Proofs.YtbekikafhpdehaaDoorW.PrintWords renaming gate_callee → zU
open Go.Proofs.YtbekikafhpdehaaDoor.Sq
open Go.RowKit Go.Proofs.YtbekikafhpdehaaDoorW.PrintWords Go.Proofs.YtbekikafhpdehaaDoorW.PrintLast Go.Proofs.YtbekikafhpdehaaDoorW.PrintMore
attribute [local go_sem] max2_int min2_int max_two min_two max_three min_three max_four min_four
set_option linter.unusedVariables false
set_option linter.unusedSimpArgs false
mutual
def foretellref_NameMay.j0:Nat → ByteArray → Bool → Option (Bool)
 | 0,_,_=>none
 | k + 1,x0,x17=>if x17 = true then (some false) else (foretellref_NameMay.l0 k x0 0)
def foretellref_NameMay.l0:Nat → ByteArray → Int → Option (Bool)
 | 0,_,_=>none
 | k + 1,x0,x3=>if x3 < (x0.size:Int) then (if 0 ≤ x3 then ((foretellref_In.f (wrap64 (bt x0 x3)) 97 122).bind fun t381=>((foretellref_In.f (wrap64 (bt x0 x3)) 48 57).bind fun t382=>(if t381 = true then (if x3 = 0 then (if t382 = true then (some false) else (foretellref_NameMay.l0 k x0 (wrap64 (x3 + 1)))) else (foretellref_NameMay.l0 k x0 (wrap64 (x3 + 1)))) else (if t382 = true then (if x3 = 0 then (some false) else (foretellref_NameMay.l0 k x0 (wrap64 (x3 + 1)))) else (some false))))) else (none)) else (some true)
end
def foretellref_NameMay.f (k:Nat) (a0:ByteArray):Option (Bool):=(foretellref_In.f (a0.size:Int) 1 8).bind fun t380=>(if t380 = true then (if a0.toList = ([121,101,115]:List UInt8) then (foretellref_NameMay.j0 k a0 true) else (foretellref_NameMay.j0 k a0 (a0.toList == ([110,111]:List UInt8)))) else (foretellref_NameMay.j0 k a0 true))
theorem foretellref_NameMay.mono_l:∀ k,(∀ y0 y1,LeO (foretellref_NameMay.j0 k y0 y1) (foretellref_NameMay.j0 (k + 1) y0 y1))∧(∀ y0 y1,LeO (foretellref_NameMay.l0 k y0 y1) (foretellref_NameMay.l0 (k + 1) y0 y1))
 | 0=>⟨fun _ _ r h=>by simp [foretellref_NameMay.j0] at h,fun _ _ r h=>by simp [foretellref_NameMay.l0] at h⟩
 | k + 1=>by
  obtain ⟨ih0,ih1⟩:=foretellref_NameMay.mono_l k
  refine ⟨?_,?_⟩
  ·intro y0 y1
   unfold foretellref_NameMay.j0
   exact qL
  ·intro y0 y1
   unfold foretellref_NameMay.l0
   exact qL
theorem foretellref_NameMay.mono:∀ a0 k,LeO (foretellref_NameMay.f k a0) (foretellref_NameMay.f (k + 1) a0):=by
 intro a0 k;obtain ⟨ih0,ih1⟩:=foretellref_NameMay.mono_l k;unfold foretellref_NameMay.f;exact qL
set_option maxHeartbeats 8000000 in
set_option maxRecDepth 100000 in
theorem foretellref_NameMay.calls (k:Nat) (a0:ByteArray) (r:Bool) (w:World) (h:foretellref_NameMay.f k a0 = some r) :
  Calls Tryd.prog 88 #[.string a0] w fun e w'=>e = .returned (.bool r)∧Drawn0 w w':=by
 have H:((foretellref_In.f (a0.size:Int) 1 8).bind fun t380=>(if t380 = true then (if a0.toList = ([121,101,115]:List UInt8) then (foretellref_NameMay.j0 k a0 true) else (foretellref_NameMay.j0 k a0 (a0.toList == ([110,111]:List UInt8)))) else (foretellref_NameMay.j0 k a0 true))) = some r:=h;clear h;have HC2:=zA H;clear H;go_enter Tryd.func88,Tryd.ntmps88;go_upto_region 1 with (fail);go_cut [17] (fun v17 wc=>∃ (kq:Nat) (x17_1:Bool),v17 = .bool x17_1∧Aside0 (foretellref_NameMay.j0 kq a0 x17_1 = some r)∧Aside0 (kq ≤ k)∧Drawn0 w wc)
 case first =>
  have H:=HC2.out;clear HC2;replace H:=zb.mp H;obtain ⟨t380,A30,H⟩:=H;replace H:(if t380 = true then (if a0.toList = ([121,101,115]:List UInt8) then (foretellref_NameMay.j0 k a0 true) else (foretellref_NameMay.j0 k a0 (a0.toList == ([110,111]:List UInt8)))) else (foretellref_NameMay.j0 k a0 true)) = some r:=H;have A3:=zA A30;clear A30;by_cases c4:t380 = true
  ·subst c4;have H1:(if a0.toList = ([121,101,115]:List UInt8) then (foretellref_NameMay.j0 k a0 true) else (foretellref_NameMay.j0 k a0 (a0.toList == ([110,111]:List UInt8)))) = some r:=by rw [if_pos rfl] at H;exact H
   clear H;have H:=H1;clear H1;by_cases c5:a0.toList = ([121,101,115]:List UInt8)
   ·rw [if_pos c5] at H;have c5b0:(a0.toList == ([121,101,115]:List UInt8)) = true:=beq_iff_eq.mpr c5;have c5b1:(a0.toList != ([121,101,115]:List UInt8)) = false:=bne_eq_false_iff_eq.mpr c5;clear c5;(first|rw [c5b0]|(simp only [i64_w,i32_w];rw [c5b0])|skip);have H':=zA H;clear H;go_wp2_with (first|((with_reducible refine zU (f:=24) rfl ?_);refine gL (some 8) Tryd.func24 #[.int .i64 (a0.size:Int),.int .i64 1,.int .i64 8] ?_;(with_reducible refine (foretellref_In.calls (a0.size:Int) 1 8 true _ A3.out).mono ?_);rintro e w' ⟨rfl,⟨nd,rfl⟩⟩;refine ⟨_,rfl,?_⟩));go_meet
    case rel=>exact ⟨_,(true),qr,H',⟨qm⟩,qt⟩
   ·rw [if_neg c5] at H;have c5b0:(a0.toList == ([121,101,115]:List UInt8)) = false:=beq_eq_false_iff_ne.mpr c5;have c5b1:(a0.toList != ([121,101,115]:List UInt8)) = true:=bne_iff_ne.mpr c5;(first|rw [c5b0]|(simp only [i64_w,i32_w];rw [c5b0])|skip);have H':=zA H;clear H;go_wp2_with (first|((with_reducible refine zU (f:=24) rfl ?_);refine gL (some 8) Tryd.func24 #[.int .i64 (a0.size:Int),.int .i64 1,.int .i64 8] ?_;(with_reducible refine (foretellref_In.calls (a0.size:Int) 1 8 true _ A3.out).mono ?_);rintro e w' ⟨rfl,⟨nd,rfl⟩⟩;refine ⟨_,rfl,?_⟩));go_meet
    case rel=>exact ⟨_,((a0.toList == ([110,111]:List UInt8))),qr,H',⟨qm⟩,qt⟩
  ·replace c4:=Bool.eq_false_iff.mpr c4;subst c4;have H1:(foretellref_NameMay.j0 k a0 true) = some r:=by rw [if_neg (show ¬ (false = true) by decide)] at H;exact H
   clear H;have H:=H1;clear H1;have H':=zA H;clear H;go_wp2_with (first|((with_reducible refine zU (f:=24) rfl ?_);refine gL (some 8) Tryd.func24 #[.int .i64 (a0.size:Int),.int .i64 1,.int .i64 8] ?_;(with_reducible refine (foretellref_In.calls (a0.size:Int) 1 8 false _ A3.out).mono ?_);rintro e w' ⟨rfl,⟨nd,rfl⟩⟩;refine ⟨_,rfl,?_⟩));go_meet
   case rel=>exact ⟨_,(true),qr,H',⟨qm⟩,qt⟩
 case rest =>
  clear HC2;obtain ⟨kq,x17_1,rfl,HA,HJ1,⟨mc1,rfl⟩⟩:=hcut;cases kq with
  | zero=>exact absurd HA.out (by simp [foretellref_NameMay.j0])
  | succ kj1 =>
   have H:=HA.out;clear HA;simp only [foretellref_NameMay.j0] at H;by_cases c6:x17_1 = true
   ·subst c6;have H1:(some false) = some r:=by rw [if_pos rfl] at H;exact H
    clear H;have H:=H1;clear H1;obtain rfl:=Option.some.inj H;go_wp2;go_ret;exact ⟨qr,qt⟩
   ·replace c6:=Bool.eq_false_iff.mpr c6;subst c6;have H1:(foretellref_NameMay.l0 kj1 a0 0) = some r:=by rw [if_neg (show ¬ (false = true) by decide)] at H;exact H
    clear H;have H:=H1;clear H1;have H':=zA H;clear H;go_wp2;go_loopg [3] kj1 (fun kq v3 w'=>∃ (x3_2:Int),v3 = .int .i64 x3_2∧Aside0 (foretellref_NameMay.l0 kq a0 x3_2 = some r)∧Aside0 (kq ≤ kj1)∧Drawn0 w w')
    case atStart=>exact ⟨(0),qr,H',⟨Nat.le_refl _⟩,qt⟩
    case round =>
     clear H';obtain ⟨x3_2,rfl,HA,HK2,⟨m2,rfl⟩⟩:=hrel;cases gk with
     | zero=>exact absurd HA.out (by simp [foretellref_NameMay.l0])
     | succ k2 =>
      have H:=HA.out;clear HA;simp only [foretellref_NameMay.l0] at H;rcases qj H with ⟨c7b0,H⟩|⟨c7b0,H⟩
      ·rcases qj H with ⟨c8b0,H⟩|⟨c8,H⟩
       ·replace H:=zb.mp H;obtain ⟨t381,A100,H⟩:=H;replace H:((foretellref_In.f (wrap64 (bt a0 x3_2)) 48 57).bind fun t382=>(if t381 = true then (if x3_2 = 0 then (if t382 = true then (some false) else (foretellref_NameMay.l0 k2 a0 (wrap64 (x3_2 + 1)))) else (foretellref_NameMay.l0 k2 a0 (wrap64 (x3_2 + 1)))) else (if t382 = true then (if x3_2 = 0 then (some false) else (foretellref_NameMay.l0 k2 a0 (wrap64 (x3_2 + 1)))) else (some false)))) = some r:=H;have A10:=zA A100;clear A100;replace H:=zb.mp H;obtain ⟨t382,A120,H⟩:=H;replace H:(if t381 = true then (if x3_2 = 0 then (if t382 = true then (some false) else (foretellref_NameMay.l0 k2 a0 (wrap64 (x3_2 + 1)))) else (foretellref_NameMay.l0 k2 a0 (wrap64 (x3_2 + 1)))) else (if t382 = true then (if x3_2 = 0 then (some false) else (foretellref_NameMay.l0 k2 a0 (wrap64 (x3_2 + 1)))) else (some false))) = some r:=H;have A12:=zA A120;clear A120;by_cases c13:t381 = true
        ·subst c13;have H1:(if x3_2 = 0 then (if t382 = true then (some false) else (foretellref_NameMay.l0 k2 a0 (wrap64 (x3_2 + 1)))) else (foretellref_NameMay.l0 k2 a0 (wrap64 (x3_2 + 1)))) = some r:=by rw [if_pos rfl] at H;exact H
         clear H;have H:=H1;clear H1;by_cases c14:x3_2 = 0
         ·rw [if_pos c14] at H;have c14b0:(x3_2 == 0) = true:=beq_iff_eq.mpr c14;have c14b1:(x3_2 != 0) = false:=bne_eq_false_iff_eq.mpr c14;clear c14;by_cases c15:t382 = true
          ·subst c15;have H1:(some false) = some r:=by rw [if_pos rfl] at H;exact H
           clear H;have H:=H1;clear H1;obtain rfl:=Option.some.inj H;have p9:0 ≤ (x3_2:Int):=qd;have q9:x3_2 < (a0.size:Int):=qd;have hx9:=bt_at a0 x3_2;replace p9:=eq_true p9;replace q9:=eq_true q9;go_wp2_with (first|((with_reducible refine zU (f:=24) rfl ?_);refine gL (some 28) Tryd.func24 #[.int .i64 (wrap64 (bt a0 x3_2)),.int .i64 97,.int .i64 122] ?_;(with_reducible refine (foretellref_In.calls (wrap64 (bt a0 x3_2)) 97 122 true _ A10.out).mono ?_);rintro e w' ⟨rfl,⟨nd,rfl⟩⟩;refine ⟨_,rfl,?_⟩;have p11:0 ≤ (x3_2:Int):=qd;have q11:x3_2 < (a0.size:Int):=qd;have hx11:=bt_at a0 x3_2;replace p11:=eq_true p11;replace q11:=eq_true q11)|((with_reducible refine zU (f:=24) rfl ?_);refine gL (some 33) Tryd.func24 #[.int .i64 (wrap64 (bt a0 x3_2)),.int .i64 48,.int .i64 57] ?_;(with_reducible refine (foretellref_In.calls (wrap64 (bt a0 x3_2)) 48 57 true _ A12.out).mono ?_);rintro e w' ⟨rfl,⟨nd,rfl⟩⟩;refine ⟨_,rfl,?_⟩));go_ret;exact ⟨qr,qt⟩
          ·replace c15:=Bool.eq_false_iff.mpr c15;subst c15;have H1:(foretellref_NameMay.l0 k2 a0 (wrap64 (x3_2 + 1))) = some r:=by rw [if_neg (show ¬ (false = true) by decide)] at H;exact H
           clear H;have H:=H1;clear H1;have H':=zA H;clear H;have p9:0 ≤ (x3_2:Int):=qd;have q9:x3_2 < (a0.size:Int):=qd;have hx9:=bt_at a0 x3_2;replace p9:=eq_true p9;replace q9:=eq_true q9;go_wp2_with (first|((with_reducible refine zU (f:=24) rfl ?_);refine gL (some 28) Tryd.func24 #[.int .i64 (wrap64 (bt a0 x3_2)),.int .i64 97,.int .i64 122] ?_;(with_reducible refine (foretellref_In.calls (wrap64 (bt a0 x3_2)) 97 122 true _ A10.out).mono ?_);rintro e w' ⟨rfl,⟨nd,rfl⟩⟩;refine ⟨_,rfl,?_⟩;have p11:0 ≤ (x3_2:Int):=qd;have q11:x3_2 < (a0.size:Int):=qd;have hx11:=bt_at a0 x3_2;replace p11:=eq_true p11;replace q11:=eq_true q11)|((with_reducible refine zU (f:=24) rfl ?_);refine gL (some 33) Tryd.func24 #[.int .i64 (wrap64 (bt a0 x3_2)),.int .i64 48,.int .i64 57] ?_;(with_reducible refine (foretellref_In.calls (wrap64 (bt a0 x3_2)) 48 57 false _ A12.out).mono ?_);rintro e w' ⟨rfl,⟨nd,rfl⟩⟩;refine ⟨_,rfl,?_⟩));go_roundg k2
           case measure=>have:=HJ1.out;have:=HK2.out;omega
           case rel=>exact ⟨(wrap64 (x3_2 + 1)),qr,H',⟨qp HJ1 HK2⟩,qt⟩
         ·rw [if_neg c14] at H;have c14b0:(x3_2 == 0) = false:=beq_eq_false_iff_ne.mpr c14;have c14b1:(x3_2 != 0) = true:=bne_iff_ne.mpr c14;have H':=zA H;clear H;have p9:0 ≤ (x3_2:Int):=qd;have q9:x3_2 < (a0.size:Int):=qd;have hx9:=bt_at a0 x3_2;replace p9:=eq_true p9;replace q9:=eq_true q9;go_wp2_with (first|((with_reducible refine zU (f:=24) rfl ?_);refine gL (some 28) Tryd.func24 #[.int .i64 (wrap64 (bt a0 x3_2)),.int .i64 97,.int .i64 122] ?_;(with_reducible refine (foretellref_In.calls (wrap64 (bt a0 x3_2)) 97 122 true _ A10.out).mono ?_);rintro e w' ⟨rfl,⟨nd,rfl⟩⟩;refine ⟨_,rfl,?_⟩;have p11:0 ≤ (x3_2:Int):=qd;have q11:x3_2 < (a0.size:Int):=qd;have hx11:=bt_at a0 x3_2;replace p11:=eq_true p11;replace q11:=eq_true q11)|((with_reducible refine zU (f:=24) rfl ?_);refine gL (some 33) Tryd.func24 #[.int .i64 (wrap64 (bt a0 x3_2)),.int .i64 48,.int .i64 57] ?_;(with_reducible refine (foretellref_In.calls (wrap64 (bt a0 x3_2)) 48 57 t382 _ A12.out).mono ?_);rintro e w' ⟨rfl,⟨nd,rfl⟩⟩;refine ⟨_,rfl,?_⟩));go_roundg k2
          case measure=>have:=HJ1.out;have:=HK2.out;omega
          case rel=>exact ⟨(wrap64 (x3_2 + 1)),qr,H',⟨qp HJ1 HK2⟩,qt⟩
        ·replace c13:=Bool.eq_false_iff.mpr c13;subst c13;have H1:(if t382 = true then (if x3_2 = 0 then (some false) else (foretellref_NameMay.l0 k2 a0 (wrap64 (x3_2 + 1)))) else (some false)) = some r:=by rw [if_neg (show ¬ (false = true) by decide)] at H;exact H
         clear H;have H:=H1;clear H1;by_cases c16:t382 = true
         ·subst c16;have H1:(if x3_2 = 0 then (some false) else (foretellref_NameMay.l0 k2 a0 (wrap64 (x3_2 + 1)))) = some r:=by rw [if_pos rfl] at H;exact H
          clear H;have H:=H1;clear H1;by_cases c17:x3_2 = 0
          ·rw [if_pos c17] at H;have c17b0:(x3_2 == 0) = true:=beq_iff_eq.mpr c17;have c17b1:(x3_2 != 0) = false:=bne_eq_false_iff_eq.mpr c17;clear c17;obtain rfl:=Option.some.inj H;have p9:0 ≤ (x3_2:Int):=qd;have q9:x3_2 < (a0.size:Int):=qd;have hx9:=bt_at a0 x3_2;replace p9:=eq_true p9;replace q9:=eq_true q9;go_wp2_with (first|((with_reducible refine zU (f:=24) rfl ?_);refine gL (some 28) Tryd.func24 #[.int .i64 (wrap64 (bt a0 x3_2)),.int .i64 97,.int .i64 122] ?_;(with_reducible refine (foretellref_In.calls (wrap64 (bt a0 x3_2)) 97 122 false _ A10.out).mono ?_);rintro e w' ⟨rfl,⟨nd,rfl⟩⟩;refine ⟨_,rfl,?_⟩;have p11:0 ≤ (x3_2:Int):=qd;have q11:x3_2 < (a0.size:Int):=qd;have hx11:=bt_at a0 x3_2;replace p11:=eq_true p11;replace q11:=eq_true q11)|((with_reducible refine zU (f:=24) rfl ?_);refine gL (some 33) Tryd.func24 #[.int .i64 (wrap64 (bt a0 x3_2)),.int .i64 48,.int .i64 57] ?_;(with_reducible refine (foretellref_In.calls (wrap64 (bt a0 x3_2)) 48 57 true _ A12.out).mono ?_);rintro e w' ⟨rfl,⟨nd,rfl⟩⟩;refine ⟨_,rfl,?_⟩));go_ret;exact ⟨qr,qt⟩
          ·rw [if_neg c17] at H;have c17b0:(x3_2 == 0) = false:=beq_eq_false_iff_ne.mpr c17;have c17b1:(x3_2 != 0) = true:=bne_iff_ne.mpr c17;have H':=zA H;clear H;have p9:0 ≤ (x3_2:Int):=qd;have q9:x3_2 < (a0.size:Int):=qd;have hx9:=bt_at a0 x3_2;replace p9:=eq_true p9;replace q9:=eq_true q9;go_wp2_with (first|((with_reducible refine zU (f:=24) rfl ?_);refine gL (some 28) Tryd.func24 #[.int .i64 (wrap64 (bt a0 x3_2)),.int .i64 97,.int .i64 122] ?_;(with_reducible refine (foretellref_In.calls (wrap64 (bt a0 x3_2)) 97 122 false _ A10.out).mono ?_);rintro e w' ⟨rfl,⟨nd,rfl⟩⟩;refine ⟨_,rfl,?_⟩;have p11:0 ≤ (x3_2:Int):=qd;have q11:x3_2 < (a0.size:Int):=qd;have hx11:=bt_at a0 x3_2;replace p11:=eq_true p11;replace q11:=eq_true q11)|((with_reducible refine zU (f:=24) rfl ?_);refine gL (some 33) Tryd.func24 #[.int .i64 (wrap64 (bt a0 x3_2)),.int .i64 48,.int .i64 57] ?_;(with_reducible refine (foretellref_In.calls (wrap64 (bt a0 x3_2)) 48 57 true _ A12.out).mono ?_);rintro e w' ⟨rfl,⟨nd,rfl⟩⟩;refine ⟨_,rfl,?_⟩));go_roundg k2
           case measure=>have:=HJ1.out;have:=HK2.out;omega
           case rel=>exact ⟨(wrap64 (x3_2 + 1)),qr,H',⟨qp HJ1 HK2⟩,qt⟩
         ·replace c16:=Bool.eq_false_iff.mpr c16;subst c16;have H1:(some false) = some r:=by rw [if_neg (show ¬ (false = true) by decide)] at H;exact H
          clear H;have H:=H1;clear H1;obtain rfl:=Option.some.inj H;have p9:0 ≤ (x3_2:Int):=qd;have q9:x3_2 < (a0.size:Int):=qd;have hx9:=bt_at a0 x3_2;replace p9:=eq_true p9;replace q9:=eq_true q9;go_wp2_with (first|((with_reducible refine zU (f:=24) rfl ?_);refine gL (some 28) Tryd.func24 #[.int .i64 (wrap64 (bt a0 x3_2)),.int .i64 97,.int .i64 122] ?_;(with_reducible refine (foretellref_In.calls (wrap64 (bt a0 x3_2)) 97 122 false _ A10.out).mono ?_);rintro e w' ⟨rfl,⟨nd,rfl⟩⟩;refine ⟨_,rfl,?_⟩;have p11:0 ≤ (x3_2:Int):=qd;have q11:x3_2 < (a0.size:Int):=qd;have hx11:=bt_at a0 x3_2;replace p11:=eq_true p11;replace q11:=eq_true q11)|((with_reducible refine zU (f:=24) rfl ?_);refine gL (some 33) Tryd.func24 #[.int .i64 (wrap64 (bt a0 x3_2)),.int .i64 48,.int .i64 57] ?_;(with_reducible refine (foretellref_In.calls (wrap64 (bt a0 x3_2)) 48 57 false _ A12.out).mono ?_);rintro e w' ⟨rfl,⟨nd,rfl⟩⟩;refine ⟨_,rfl,?_⟩));go_ret;exact ⟨qr,qt⟩
       ·exact absurd H (by simp)
      ·obtain rfl:=Option.some.inj H;go_wp2;go_ret;exact ⟨qr,qt⟩
end Go.Proofs.YtbekikafhpdehaaDoor.V
