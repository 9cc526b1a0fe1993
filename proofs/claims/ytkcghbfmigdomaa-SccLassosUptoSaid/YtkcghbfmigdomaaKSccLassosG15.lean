import Derived.Test.YtkcghbfmigdomaaKSccLassosG10
namespace Go.Proofs.Ytkcghbfmigdomaa.Q
open Go.Proofs.Ytkcghbfmigdomaa.Al
open Go.Proofs.YtkcghbfmigdomaaW.PrintWords renaming below_set → zF, below_step → zH, blk_frozen → zJ, blk_alloc → zK, blk_drewN → zL, blk_drew → zM, gate_dst → zV
open Go.Proofs.YtkcghbfmigdomaaW.PrintWords Go.Proofs.Ytkcghbfmigdomaa.Sq Go.RowKit Go.Proofs.YtkcghbfmigdomaaW.PrintLast Go.Proofs.YtkcghbfmigdomaaW.PrintMore
attribute [local go_sem] max2_int min2_int max_two min_two max_three min_three max_four min_four
set_option linter.unusedVariables false
set_option linter.unusedSimpArgs false
def zAO.f (a0:Int) (a1:Int) (a2:Int):Option (Bool):=if a0 ≥ a1 then (some (decide (a0 ≤ a2))) else (some false)
set_option maxHeartbeats 8000000 in
set_option maxRecDepth 100000 in
theorem zAO.calls (a0:Int) (a1:Int) (a2:Int) (r:Bool) (w:World) (h:zAO.f a0 a1 a2 = some r) :
  Calls Try.prog 24 #[.int .i64 a0,.int .i64 a1,.int .i64 a2] w fun e w'=>e = .returned (.bool r)∧Drawn0 w w':=by
 have H:(if a0 ≥ a1 then (some (decide (a0 ≤ a2))) else (some false)) = some r:=h;clear h;by_cases c4:a0 ≥ a1
 ·rw [if_pos c4] at H;have c4b0:decide (a1 ≤ a0) = true:=zQ c4;clear c4;obtain rfl:=Option.some.inj H;go_enter Try.func24,Try.ntmps24;go_wp2;go_ret;exact ⟨qr,qt⟩
 ·rw [if_neg c4] at H;have c4b0:decide (a1 ≤ a0) = false:=zR c4;clear c4;obtain rfl:=Option.some.inj H;go_enter Try.func24,Try.ntmps24;go_wp2;go_ret;exact ⟨qr,qt⟩
mutual
def zAB.l0:Nat → List Int → List Int → Int → List (S63) → Int → List (List Int) → List Int → Int → Option (List Bool)
 | 0,_,_,_,_,_,_,_,_=>none
 | k + 1,x1,x5,x6,x188000,x188001,x188002,x188003,x188004=>if x6 < (x1.length:Int) then (if 0 ≤ x6 then (if 0 ≤ (rd x1 x6) then (if (rd x1 x6) < (x5.length:Int) then (zAB.l0 k x1 (x5.set ((rd x1 x6):Int).toNat 1) (wrap64 (x6 + 1)) x188000 x188001 x188002 x188003 x188004) else (none)) else (none)) else (none)) else (zAB.l1 k x5 true x188000 x188001 x188002 x188003 x188004)
def zAB.l1:Nat → List Int → Bool → List (S63) → Int → List (List Int) → List Int → Int → Option (List Bool)
 | 0,_,_,_,_,_,_,_=>none
 | k + 1,x5,x7,x188000,x188001,x188002,x188003,x188004=>if x7 = true then (zAB.l2 k x5 false 0 x188000 x188001 x188002 x188003 x188004) else (zAB.l4 k x5 ([]:List Bool) 0)
def zAB.l2:Nat → List Int → Bool → Int → List (S63) → Int → List (List Int) → List Int → Int → Option (List Bool)
 | 0,_,_,_,_,_,_,_,_=>none
 | k + 1,x5,x7,x8,x188000,x188001,x188002,x188003,x188004=>if x8 < (x5.length:Int) then (if 0 ≤ x8 then (if (rd x5 x8) = 1 then (zAB.l3 k (x5.set (x8:Int).toNat 2) true x8 0 x188000 x188001 x188002 x188003 x188004) else (zAB.l2 k x5 x7 (wrap64 (x8 + 1)) x188000 x188001 x188002 x188003 x188004)) else (none)) else (zAB.l1 k x5 x7 x188000 x188001 x188002 x188003 x188004)
def zAB.l3:Nat → List Int → Bool → Int → Int → List (S63) → Int → List (List Int) → List Int → Int → Option (List Bool)
 | 0,_,_,_,_,_,_,_,_,_=>none
 | k + 1,x5,x7,x8,x9,x188000,x188001,x188002,x188003,x188004=>if 0 ≤ x8 then (if x8 < (x188002.length:Int) then (if x9 < ((zAE x188002 x8).length:Int) then (if 0 ≤ x9 then (if 0 ≤ (rd (zAE x188002 x8) x9) then (if (rd (zAE x188002 x8) x9) < (x5.length:Int) then (if (rd x5 (rd (zAE x188002 x8) x9)) = 0 then (zAB.l3 k (x5.set ((rd (zAE x188002 x8) x9):Int).toNat 1) x7 x8 (wrap64 (x9 + 1)) x188000 x188001 x188002 x188003 x188004) else (zAB.l3 k x5 x7 x8 (wrap64 (x9 + 1)) x188000 x188001 x188002 x188003 x188004)) else (none)) else (none)) else (none)) else (zAB.l2 k x5 x7 (wrap64 (x8 + 1)) x188000 x188001 x188002 x188003 x188004)) else (none)) else (none)
def zAB.l4:Nat → List Int → List Bool → Int → Option (List Bool)
 | 0,_,_,_=>none
 | k + 1,x5,x10,x11=>if x11 < (x5.length:Int) then (if 0 ≤ x11 then (if x10.length < 140737488355328 then (zAB.l4 k x5 (x10 ++ [decide ((rd x5 x11) > 0)]) (wrap64 (x11 + 1))) else (none)) else (none)) else (some x10)
end
def zAB.f (k:Nat) (l0_0:List (S63)) (a0_1:Int) (l0_2:List (List Int)) (l0_3:List Int) (a0_4:Int) (l1:List Int):Option (List Bool):=if 0 ≤ (l0_0.length:Int) then (if ((l0_0.length:Int):Int).toNat ≤ 35184372088832 then (zAB.l0 k l1 (List.replicate ((l0_0.length:Int):Int).toNat 0) 0 l0_0 a0_1 l0_2 l0_3 a0_4) else (none)) else (none)
theorem zAB.mono_l:∀ k,(∀ y0 y1 y2 y3 y4 y5 y6 y7,LeO (zAB.l0 k y0 y1 y2 y3 y4 y5 y6 y7) (zAB.l0 (k + 1) y0 y1 y2 y3 y4 y5 y6 y7))∧(∀ y0 y1 y2 y3 y4 y5 y6,LeO (zAB.l1 k y0 y1 y2 y3 y4 y5 y6) (zAB.l1 (k + 1) y0 y1 y2 y3 y4 y5 y6))∧(∀ y0 y1 y2 y3 y4 y5 y6 y7,LeO (zAB.l2 k y0 y1 y2 y3 y4 y5 y6 y7) (zAB.l2 (k + 1) y0 y1 y2 y3 y4 y5 y6 y7))∧(∀ y0 y1 y2 y3 y4 y5 y6 y7 y8,LeO (zAB.l3 k y0 y1 y2 y3 y4 y5 y6 y7 y8) (zAB.l3 (k + 1) y0 y1 y2 y3 y4 y5 y6 y7 y8))∧(∀ y0 y1 y2,LeO (zAB.l4 k y0 y1 y2) (zAB.l4 (k + 1) y0 y1 y2))
 | 0=>⟨fun _ _ _ _ _ _ _ _ r h=>by simp [zAB.l0] at h,fun _ _ _ _ _ _ _ r h=>by simp [zAB.l1] at h,fun _ _ _ _ _ _ _ _ r h=>by simp [zAB.l2] at h,fun _ _ _ _ _ _ _ _ _ r h=>by simp [zAB.l3] at h,fun _ _ _ r h=>by simp [zAB.l4] at h⟩
 | k + 1=>by
  obtain ⟨ih0,ih1,ih2,ih3,ih4⟩:=zAB.mono_l k
  refine ⟨?_,?_,?_,?_,?_⟩
  ·intro y0 y1 y2 y3 y4 y5 y6 y7
   unfold zAB.l0
   exact qL
  ·intro y0 y1 y2 y3 y4 y5 y6
   unfold zAB.l1
   exact qL
  ·intro y0 y1 y2 y3 y4 y5 y6 y7
   unfold zAB.l2
   exact qL
  ·intro y0 y1 y2 y3 y4 y5 y6 y7 y8
   unfold zAB.l3
   exact qL
  ·intro y0 y1 y2
   unfold zAB.l4
   exact qL
theorem zAB.mono:∀ a0 a1 a2 a3 a4 a5 k,LeO (zAB.f k a0 a1 a2 a3 a4 a5) (zAB.f (k + 1) a0 a1 a2 a3 a4 a5):=by
 intro a0 a1 a2 a3 a4 a5 k;obtain ⟨ih0,ih1,ih2,ih3,ih4⟩:=zAB.mono_l k;unfold zAB.f;exact qL
set_option maxHeartbeats 8000000 in
set_option maxRecDepth 100000 in
theorem zAB.calls (k:Nat) (A0_0:Option Addr) (c0_0:Nat) (l0_0:List (S63)) (a0_1:Int) (A0_2:Option Addr) (c0_2:Nat) (l0_2:List (List Int)) (A0_3:Option Addr) (c0_3:Nat) (l0_3:List Int) (a0_4:Int) (A1:Option Addr) (c1:Nat) (l1:List Int) (r:List Bool) (w:World) (hr0_0:Kd.C k63 w A0_0 l0_0.length l0_0) (hc0_0:l0_0.length ≤ c0_0) (hr0_2:Kd.C (Kd.slice 3 (Kd.int .i64)) w A0_2 l0_2.length l0_2) (hc0_2:l0_2.length ≤ c0_2) (hr0_3:Kd.C (Kd.int .i64) w A0_3 l0_3.length l0_3) (hc0_3:l0_3.length ≤ c0_3) (hr1:Kd.C (Kd.int .i64) w A1 l1.length l1) (hc1:l1.length ≤ c1) (h:zAB.f k l0_0 a0_1 l0_2 l0_3 a0_4 l1 = some r) :
  Calls Try.prog 32 #[.agg #[.slice A0_0 l0_0.length c0_0,.int .i64 a0_1,.slice A0_2 l0_2.length c0_2,.slice A0_3 l0_3.length c0_3,.int .i64 a0_4],.slice A1 l1.length c1] w fun e w'=>∃ v0_:Value,e = .returned (v0_)∧Kd.R Kd.bool 4 w' w.heap.size (fun _=>True) v0_ r∧Below w.heap.size w w':=by
 have hu26:=Try.underlying26;have HR0_0:=zA hr0_0;have HC0_0:=zA hc0_0;clear hr0_0 hc0_0;have HR0_2:=zA hr0_2;have HC0_2:=zA hc0_2;clear hr0_2 hc0_2;have HR0_3:=zA hr0_3;have HC0_3:=zA hc0_3;clear hr0_3 hc0_3;have HR1:=zA hr1;have HC1:=zA hc1;clear hr1 hc1;have HB:=zA (Below.refl w.heap.size w);have H:(if 0 ≤ (l0_0.length:Int) then (if ((l0_0.length:Int):Int).toNat ≤ 35184372088832 then (zAB.l0 k l1 (List.replicate ((l0_0.length:Int):Int).toNat 0) 0 l0_0 a0_1 l0_2 l0_3 a0_4) else (none)) else (none)) = some r:=h;clear h;by_cases c3:0 ≤ (l0_0.length:Int)
 ·rw [if_pos c3] at H;have c3b0:=qT c3;have c3b1:decide (0 ≤ (l0_0.length:Int)) = true:=zQ c3;clear c3;by_cases c4:((l0_0.length:Int):Int).toNat ≤ 35184372088832
  ·rw [if_pos c4] at H;have c4b0:=qT c4;have c4b1:decide (((l0_0.length:Int):Int).toNat ≤ 35184372088832) = true:=zQ c4;clear c4;obtain ⟨y188,hy188⟩:∃ y_:List Int,y_ = (List.replicate ((l0_0.length:Int):Int).toNat 0):=⟨_,rfl⟩;replace H:(zAB.l0 k l1 y188 0 l0_0 a0_1 l0_2 l0_3 a0_4) = some r:=by first|(rw [hy188];with_reducible exact H)|(have H2_:=(Option.bind_some _ _).symm.trans H;rw [hy188];with_reducible exact H2_)|(have H2_:=(Option.bind_some _ _).symm.trans H;with_reducible exact H2_)|with_reducible exact H|(rw [hy188];exact H)|exact H
   have Ny188:=zA hy188;clear hy188;have H':=zA H;clear H;go_enter Try.func32,Try.ntmps32;go_wp2_with (first|((with_reducible refine zV (N:=2) rfl ?_);refine bQ 2 (cs:=#[.slice A0_0 l0_0.length c0_0,.int .i64 a0_1,.slice A0_2 l0_2.length c0_2,.slice A0_3 l0_3.length c0_3,.int .i64 a0_4]) (t:=26) ?_;intro gb187 hg w5 BK187 hb;have GW187:=zA (qg hg);replace HB:=zA (zH qb hb);clear hb hg;have hcz6_0:=qx BK187 0;have hcz6_1:=qx BK187 1;have hcz6_2:=qx BK187 2;have hcz6_3:=qx BK187 3;have hcz6_4:=qx BK187 4;have hfz6_0:=zJ BK187.out)|((with_reducible refine zV (N:=15) rfl ?_);refine Kd.R_make (Kd.int .i64) _ 3 rfl (N:=15) rfl 24 _ _ rfl (l0_0.length:Int) rfl rfl Try.underlying24 (.int .i64 0) 8 info3 rfl (by decide) (by omega) 0 (ok:=fun _=>True) (okp:=fun _=>True) rfl (fun _ hk=>hk) trivial (qd) (Nat.le_trans (Nat.mul_le_mul_right _ (qd:(l0_0.length:Int).toNat ≤ 35184372088832)) (by omega)) (Below.refl _ _) (Nat.le_refl _) ?_;intro v189 w7 ho8 hb hg_ hnew_;clear hg_ hnew_;(first|rw [← Ny188.out] at ho8|(simp only [Int.reduceToNat] at ho8;rw [← Ny188.out] at ho8));have HO190:=zA (Kd.R_lower ho8 qs);replace BK187:=qK BK187 hb;replace HB:=zA (zH qb hb);clear hb ho8));go_loopg [6] k (fun kq v6 w'=>∃ (x5_1:List Int) (x6_1:Int),v6 = .int .i64 x6_1∧Aside0 (zAB.l0 kq l1 x5_1 x6_1 l0_0 a0_1 l0_2 l0_3 a0_4 = some r)∧Aside0 (kq ≤ k)∧Aside0 (Kd.R (Kd.int .i64) 3 w' w.heap.size (fun _=>True) v189 x5_1)∧Aside0 (w'.heap[gb187]? = some (.cells #[(.slice A0_0 l0_0.length c0_0),.int .i64 a0_1,(.slice A0_2 l0_2.length c0_2),(.slice A0_3 l0_3.length c0_3),.int .i64 a0_4] 26 (0,0)))∧Aside0 (Below w.heap.size w w'))
   case atStart=>exact ⟨(y188),(0),qr,H',⟨Nat.le_refl _⟩,⟨qR HO190⟩,⟨qk BK187⟩,⟨qb⟩⟩
   case round =>
    clear H';obtain ⟨x5_1,x6_1,rfl,HA,HK1,HO_5,BK187,HB⟩:=hrel;cases gk with
    | zero=>exact absurd HA.out (by simp [zAB.l0])
    | succ k1 =>
     have H:=HA.out;clear HA;simp only [zAB.l0] at H;rcases qj H with ⟨c9b0,H⟩|⟨c9b0,H⟩
     ·rcases qj H with ⟨c10b0,H⟩|⟨c10,H⟩
      ·rcases qj H with ⟨c11b0,H⟩|⟨c11,H⟩
       ·rcases qj H with ⟨c12b0,H⟩|⟨c12,H⟩
        ·generalize hy192:(x5_1.set ((rd l1 x6_1):Int).toNat 1) = y192 at H;replace hy192:=hy192.symm
         have Ny192:=zA hy192;clear hy192;have H':=zA H;clear H;have p191:0 ≤ (x6_1:Int):=qd;have q191:x6_1 < (l1.length:Int):=qd;obtain ⟨ad191,e191,hx191_0⟩:=Kd.at_int (qW HR1 HB) x6_1 p191 q191;cases e191;replace p191:=qT p191;replace q191:=qT q191;have p13:0 ≤ ((rd l1 x6_1):Int):=qd;have q13:((rd l1 x6_1):Int) < ((x5_1.length:Int):Int):=qd;obtain ⟨go13,co13,eo13,gb13,gl13,cl13,HG13⟩:=Kd.R_form HO_5.out (by omega);(first|cases eo13|(injection eo13 with ea_ en_ ec_;(first|subst ea_|(injection ea_ with ea_;subst ea_));subst ec_;clear en_));have GB13:=zA gb13;have GG13:=zA HG13;clear gb13 gl13 HG13;obtain ⟨hx13_0,hf13_0⟩:=Kd.R_celln 0 HO_5.out ((rd l1 x6_1):Int) p13 q13;replace p13:=qT p13;replace q13:=qT q13;have HP14:=Kd.R_putg HO_5.out ((rd l1 x6_1):Int) 1;go_wp2_with (first|((with_reducible refine gate_store (t:=3) (p:=27) rfl ?_);refine zAY (t:=3) (p:=27) (v:=?vo_w15) (w1:=(wr.setCell ⟨go13,((rd l1 x6_1):Int).toNat,none⟩ (.int .i64 1))) ?hg ?ho ?hn ?hr ?_;(case ho=>rfl);(case hg=>rfl);(case hn=>rfl);(case hr=>first|(go_simp;done)|(go_simp;rfl));intro w15 hw;have hg:wr.grownBy w15 (some go13):=(by rw [hw];exact HP14.2);have hp_:Kd.R (Kd.int .i64) 3 w15 w.heap.size (fun _=>True) (.slice (some ⟨go13,0,none⟩) x5_1.length co13) y192:=(by rw [hw,Ny192.out];exact HP14.1);clear HP14;replace BK187:=zA (blk_grown (g:=gb187) (o:=.cells #[.slice A0_0 l0_0.length c0_0,.int .i64 a0_1,.slice A0_2 l0_2.length c0_2,.slice A0_3 l0_3.length c0_3,.int .i64 a0_4] 26 (0,0)) (qk BK187) hg (Kd.R_ne HO_5.out BK187.out (by decide)));replace HO_5:=zA (hp_);replace HB:=zA ((by rw [hw];exact zF (HB.out) GB13.out:Below w.heap.size w w15));clear hg hw hp_));go_roundg k1
         case measure=>have:=HK1.out;omega
         case rel=>exact ⟨(y192),(wrap64 (x6_1 + 1)),qr,H',⟨qo HK1⟩,⟨qR HO_5⟩,⟨qk BK187⟩,⟨qb⟩⟩
        ·nomatch H
       ·nomatch H
      ·nomatch H
     ·have H':=zA H;clear H;go_wp2;go_loopg [7] k1 (fun kq v7 w'=>∃ (x5_2:List Int) (x7_2:Bool),v7 = .bool x7_2∧Aside0 (zAB.l1 kq x5_2 x7_2 l0_0 a0_1 l0_2 l0_3 a0_4 = some r)∧Aside0 (kq ≤ k1)∧Aside0 (Kd.R (Kd.int .i64) 3 w' w.heap.size (fun _=>True) v189 x5_2)∧Aside0 (w'.heap[gb187]? = some (.cells #[(.slice A0_0 l0_0.length c0_0),.int .i64 a0_1,(.slice A0_2 l0_2.length c0_2),(.slice A0_3 l0_3.length c0_3),.int .i64 a0_4] 26 (0,0)))∧Aside0 (Below w.heap.size w w'))
      case atStart=>exact ⟨(x5_1),(true),qr,H',⟨Nat.le_refl _⟩,⟨qR HO_5⟩,⟨qk BK187⟩,⟨qb⟩⟩
      case round =>
       clear H';obtain ⟨x5_2,x7_2,rfl,HA,HK2,HO_5,BK187,HB⟩:=hrel;cases gk with
       | zero=>exact absurd HA.out (by simp [zAB.l1])
       | succ k2 =>
        have H:=HA.out;clear HA;simp only [zAB.l1] at H;by_cases c16:x7_2 = true
        ·subst c16;rw [if_pos rfl] at H
         have H':=zA H;clear H;go_wp2;go_loopg [7,8] k2 (fun kq v7 v8 w'=>∃ (x5_3:List Int) (x7_3:Bool) (x8_3:Int),v7 = .bool x7_3∧v8 = .int .i64 x8_3∧Aside0 (zAB.l2 kq x5_3 x7_3 x8_3 l0_0 a0_1 l0_2 l0_3 a0_4 = some r)∧Aside0 (kq ≤ k2)∧Aside0 (Kd.R (Kd.int .i64) 3 w' w.heap.size (fun _=>True) v189 x5_3)∧Aside0 (w'.heap[gb187]? = some (.cells #[(.slice A0_0 l0_0.length c0_0),.int .i64 a0_1,(.slice A0_2 l0_2.length c0_2),(.slice A0_3 l0_3.length c0_3),.int .i64 a0_4] 26 (0,0)))∧Aside0 (Below w.heap.size w w'))
         case atStart=>exact ⟨(x5_2),(false),(0),qr,qr,H',⟨Nat.le_refl _⟩,⟨qR HO_5⟩,⟨qk BK187⟩,⟨qb⟩⟩
         case round =>
          clear H';obtain ⟨x5_3,x7_3,x8_3,rfl,rfl,HA,HK3,HO_5,BK187,HB⟩:=hrel;cases gk with
          | zero=>exact absurd HA.out (by simp [zAB.l2])
          | succ k3 =>
           have H:=HA.out;clear HA;simp only [zAB.l2] at H;rcases qj H with ⟨c17b0,H⟩|⟨c17b0,H⟩
           ·rcases qj H with ⟨c18b0,H⟩|⟨c18,H⟩
            ·rcases qE H with ⟨c19b0,c19b1,H⟩|⟨c19,c19b0,c19b1,H⟩
             ·generalize hy194:(x5_3.set (x8_3:Int).toNat 2) = y194 at H;replace hy194:=hy194.symm
              have Ny194:=zA hy194;clear hy194;have H':=zA H;clear H;obtain ⟨Ao21,co21,eo21⟩:=Kd.R_slice HO_5.out;subst eo21;have p193:0 ≤ (x8_3:Int):=qd;have q193:x8_3 < (x5_3.length:Int):=qd;(try (obtain ⟨A_,c_,e_⟩:=Kd.R_slice HO_5.out;subst e_));obtain ⟨ad193,e193,hx193_0⟩:=Kd.at_int (Kd.R_reads' HO_5.out).2.2 x8_3 p193 q193;cases e193;replace p193:=qT p193;replace q193:=qT q193;have p20:0 ≤ (x8_3:Int):=qd;have q20:(x8_3:Int) < ((x5_3.length:Int):Int):=qd;obtain ⟨go20,co20,eo20,gb20,gl20,cl20,HG20⟩:=Kd.R_form HO_5.out (by omega);(first|cases eo20|(injection eo20 with ea_ en_ ec_;(first|subst ea_|(injection ea_ with ea_;subst ea_));subst ec_;clear en_));have GB20:=zA gb20;have GG20:=zA HG20;clear gb20 gl20 HG20;(first|simp only [add_plain] at hx193_0|skip);obtain ⟨hx20_0,hf20_0⟩:=Kd.R_celln 0 HO_5.out (x8_3:Int) p20 q20;replace p20:=qT p20;replace q20:=qT q20;have HP22:=Kd.R_putg HO_5.out (x8_3:Int) 2;go_wp2_with (first|((with_reducible refine gate_store (t:=3) (p:=42) rfl ?_);refine zAY (t:=3) (p:=42) (v:=?vo_w23) (w1:=(wr.setCell ⟨go20,(x8_3:Int).toNat,none⟩ (.int .i64 2))) ?hg ?ho ?hn ?hr ?_;(case ho=>rfl);(case hg=>rfl);(case hn=>rfl);(case hr=>first|(go_simp;done)|(go_simp;rfl));intro w23 hw;have hg:wr.grownBy w23 (some go20):=(by rw [hw];exact HP22.2);have hp_:Kd.R (Kd.int .i64) 3 w23 w.heap.size (fun _=>True) (.slice (some ⟨go20,0,none⟩) x5_3.length co21) y194:=(by rw [hw,Ny194.out];exact HP22.1);clear HP22;replace BK187:=zA (blk_grown (g:=gb187) (o:=.cells #[.slice A0_0 l0_0.length c0_0,.int .i64 a0_1,.slice A0_2 l0_2.length c0_2,.slice A0_3 l0_3.length c0_3,.int .i64 a0_4] 26 (0,0)) (qk BK187) hg (Kd.R_ne HO_5.out BK187.out (by decide)));replace HO_5:=zA (hp_);replace HB:=zA ((by rw [hw];exact zF (HB.out) GB20.out:Below w.heap.size w w23));clear hg hw hp_));go_loopg [9] k3 (fun kq v9 w'=>∃ (x5_4:List Int) (x9_4:Int),v9 = .int .i64 x9_4∧Aside0 (zAB.l3 kq x5_4 true x8_3 x9_4 l0_0 a0_1 l0_2 l0_3 a0_4 = some r)∧Aside0 (kq ≤ k3)∧Aside0 (Kd.R (Kd.int .i64) 3 w' w.heap.size (fun _=>True) (.slice (some ⟨go20,0,none⟩) x5_3.length co21) x5_4)∧Aside0 (w'.heap[gb187]? = some (.cells #[(.slice A0_0 l0_0.length c0_0),.int .i64 a0_1,(.slice A0_2 l0_2.length c0_2),(.slice A0_3 l0_3.length c0_3),.int .i64 a0_4] 26 (0,0)))∧Aside0 (Below w.heap.size w w'))
              case atStart=>exact ⟨(y194),(0),qr,H',⟨Nat.le_refl _⟩,⟨qR HO_5⟩,⟨qk BK187⟩,⟨qb⟩⟩
              case round =>
               clear H';obtain ⟨x5_4,x9_4,rfl,HA,HK4,HO_5,BK187,HB⟩:=hrel;have hl5_4:=(Kd.R_reads' HO_5.out).1;rw [hl5_4] at HO_5;(try simp only [hl5_4]);(try simp only [hl5_4] at BK187);cases gk with
               | zero=>exact absurd HA.out (by simp [zAB.l3])
               | succ k4 =>
                have H:=HA.out;clear HA;simp only [zAB.l3] at H;rcases qj H with ⟨c24b0,H⟩|⟨c24,H⟩
                ·rcases qj H with ⟨c25b0,H⟩|⟨c25,H⟩
                 ·by_cases c26:x9_4 < ((zAE l0_2 x8_3).length:Int)
                  ·rw [if_pos c26] at H;have c26b0:decide (x9_4 < ((zAE l0_2 x8_3).length:Int)) = true:=zQ c26;clear c26;rcases qj H with ⟨c27b0,H⟩|⟨c27,H⟩
                   ·rcases qj H with ⟨c28b0,H⟩|⟨c28,H⟩
                    ·rcases qj H with ⟨c29b0,H⟩|⟨c29,H⟩
                     ·rcases qE H with ⟨c30b0,c30b1,H⟩|⟨c30,c30b0,c30b1,H⟩
                      ·generalize hy201:(x5_4.set ((rd (zAE l0_2 x8_3) x9_4):Int).toNat 1) = y201 at H;replace hy201:=hy201.symm
                       have Ny201:=zA hy201;clear hy201;have H':=zA H;clear H;have hcz32_0:=qx BK187 0;have hcz32_1:=qx BK187 1;have hcz32_2:=qx BK187 2;have hcz32_3:=qx BK187 3;have hcz32_4:=qx BK187 4;have hfz32_0:=zJ BK187.out;have p195:0 ≤ (x8_3:Int):=qd;have q195:x8_3 < (l0_2.length:Int):=qd;obtain ⟨ad195,A195_0,c195_0,e195,hx195_0,hl195_0,hi195_0⟩:=zAW HR0_2.out x8_3 p195 q195;cases e195;replace hx195_0:=qy HB hx195_0;have HR195_0:=zA hi195_0;have HC195_0:=zA hl195_0;clear hi195_0 hl195_0;replace p195:=qT p195;replace q195:=qT q195;have p196:0 ≤ (x8_3:Int):=qd;have q196:x8_3 < (l0_2.length:Int):=qd;obtain ⟨ad196,A196_0,c196_0,e196,hx196_0,hl196_0,hi196_0⟩:=zAW HR0_2.out x8_3 p196 q196;obtain rfl:ad195 = ad196:=(by injection e196);replace hx196_0:=qy HB hx196_0;have HR196_0:=zA hi196_0;have HC196_0:=zA hl196_0;clear hi196_0 hl196_0;replace p196:=qT p196;replace q196:=qT q196;have ea_:=Option.some.inj (hx195_0.symm.trans hx196_0);injection ea_ with ea_ en_ ec_;subst ea_;subst ec_;clear en_;have p197:0 ≤ (x9_4:Int):=qd;have q197:x9_4 < ((zAE l0_2 x8_3).length:Int):=qd;obtain ⟨ad197,e197,hx197_0⟩:=Kd.at_int (qW HR196_0 HB) x9_4 p197 q197;cases e197;replace p197:=qT p197;replace q197:=qT q197;have p198:0 ≤ ((rd (zAE l0_2 x8_3) x9_4):Int):=qd;have q198:(rd (zAE l0_2 x8_3) x9_4) < (x5_4.length:Int):=qd;(try (obtain ⟨A_,c_,e_⟩:=Kd.R_slice HO_5.out;subst e_));obtain ⟨ad198,e198,hx198_0⟩:=Kd.at_int (Kd.R_reads' HO_5.out).2.2 (rd (zAE l0_2 x8_3) x9_4) p198 q198;obtain rfl:(⟨go20,0,none⟩:Addr) = ad198:=(by injection e198);(first|simp only [add_plain] at hx198_0|simp only [add_at] at hx198_0|simp only [Addr.add,Nat.zero_add] at hx198_0|skip);replace p198:=qT p198;replace q198:=qT q198;have p199:0 ≤ (x8_3:Int):=qd;have q199:x8_3 < (l0_2.length:Int):=qd;obtain ⟨ad199,A199_0,c199_0,e199,hx199_0,hl199_0,hi199_0⟩:=zAW HR0_2.out x8_3 p199 q199;obtain rfl:ad195 = ad199:=(by injection e199);replace hx199_0:=qy HB hx199_0;have HR199_0:=zA hi199_0;have HC199_0:=zA hl199_0;clear hi199_0 hl199_0;replace p199:=qT p199;replace q199:=qT q199;have ea_:=Option.some.inj (hx195_0.symm.trans hx199_0);injection ea_ with ea_ en_ ec_;subst ea_;subst ec_;clear en_;have p200:0 ≤ (x9_4:Int):=qd;have q200:x9_4 < ((zAE l0_2 x8_3).length:Int):=qd;obtain ⟨ad200,e200,hx200_0⟩:=Kd.at_int (qW HR199_0 HB) x9_4 p200 q200;cases e200;replace p200:=qT p200;replace q200:=qT q200;have p31:0 ≤ ((rd (zAE l0_2 x8_3) x9_4):Int):=qd;have q31:((rd (zAE l0_2 x8_3) x9_4):Int) < ((x5_4.length:Int):Int):=qd;obtain ⟨hx31_0,hf31_0⟩:=Kd.R_celln 0 HO_5.out ((rd (zAE l0_2 x8_3) x9_4):Int) p31 q31;replace p31:=qT p31;replace q31:=qT q31;have HP33:=Kd.R_putg HO_5.out ((rd (zAE l0_2 x8_3) x9_4):Int) 1;go_wp2_with (first|((with_reducible refine gate_store (t:=3) (p:=74) rfl ?_);refine zAY (t:=3) (p:=74) (v:=?vo_w34) (w1:=(wr.setCell ⟨go20,((rd (zAE l0_2 x8_3) x9_4):Int).toNat,none⟩ (.int .i64 1))) ?hg ?ho ?hn ?hr ?_;(case ho=>rfl);(case hg=>rfl);(case hn=>rfl);(case hr=>first|(go_simp;done)|(go_simp;rfl));intro w34 hw;have hg:wr.grownBy w34 (some go20):=(by rw [hw];exact HP33.2);have hp_:Kd.R (Kd.int .i64) 3 w34 w.heap.size (fun _=>True) (.slice (some ⟨go20,0,none⟩) x5_4.length co21) y201:=(by rw [hw,Ny201.out];exact HP33.1);clear HP33;replace BK187:=zA (blk_grown (g:=gb187) (o:=.cells #[.slice A0_0 l0_0.length c0_0,.int .i64 a0_1,.slice (some ad195) l0_2.length c0_2,.slice A0_3 l0_3.length c0_3,.int .i64 a0_4] 26 (0,0)) (qk BK187) hg (Kd.R_ne HO_5.out BK187.out (by decide)));replace HO_5:=zA (hp_);replace HB:=zA ((by rw [hw];exact zF (HB.out) GB20.out:Below w.heap.size w w34));clear hg hw hp_));(try simp only [← hl5_4]);go_roundg k4
                       case measure=>have:=HK1.out;have:=HK2.out;have:=HK3.out;have:=HK4.out;omega
                       case rel=>exact ⟨(y201),(wrap64 (x9_4 + 1)),qr,H',⟨by have:=HK1.out;have:=HK2.out;have:=HK3.out;have:=HK4.out;omega⟩,⟨by (try simp only [hl5_4]);(with_reducible repeat (first|apply Kd.R_alloc|apply Kd.R_drewN|apply Kd.R_drew));exact HO_5.out⟩,⟨by (try simp only [hl5_4]);(with_reducible repeat (first|refine zL ?_ _|refine zM ?_|refine zK ?_ _));exact BK187.out⟩,⟨qb⟩⟩
                      ·have H':=zA H;clear H;have hcz35_0:=qx BK187 0;have hcz35_1:=qx BK187 1;have hcz35_2:=qx BK187 2;have hcz35_3:=qx BK187 3;have hcz35_4:=qx BK187 4;have hfz35_0:=zJ BK187.out;have p195:0 ≤ (x8_3:Int):=qd;have q195:x8_3 < (l0_2.length:Int):=qd;obtain ⟨ad195,A195_0,c195_0,e195,hx195_0,hl195_0,hi195_0⟩:=zAW HR0_2.out x8_3 p195 q195;cases e195;replace hx195_0:=qy HB hx195_0;have HR195_0:=zA hi195_0;have HC195_0:=zA hl195_0;clear hi195_0 hl195_0;replace p195:=qT p195;replace q195:=qT q195;have p196:0 ≤ (x8_3:Int):=qd;have q196:x8_3 < (l0_2.length:Int):=qd;obtain ⟨ad196,A196_0,c196_0,e196,hx196_0,hl196_0,hi196_0⟩:=zAW HR0_2.out x8_3 p196 q196;obtain rfl:ad195 = ad196:=(by injection e196);replace hx196_0:=qy HB hx196_0;have HR196_0:=zA hi196_0;have HC196_0:=zA hl196_0;clear hi196_0 hl196_0;replace p196:=qT p196;replace q196:=qT q196;have ea_:=Option.some.inj (hx195_0.symm.trans hx196_0);injection ea_ with ea_ en_ ec_;subst ea_;subst ec_;clear en_;have p197:0 ≤ (x9_4:Int):=qd;have q197:x9_4 < ((zAE l0_2 x8_3).length:Int):=qd;obtain ⟨ad197,e197,hx197_0⟩:=Kd.at_int (qW HR196_0 HB) x9_4 p197 q197;cases e197;replace p197:=qT p197;replace q197:=qT q197;have p198:0 ≤ ((rd (zAE l0_2 x8_3) x9_4):Int):=qd;have q198:(rd (zAE l0_2 x8_3) x9_4) < (x5_4.length:Int):=qd;(try (obtain ⟨A_,c_,e_⟩:=Kd.R_slice HO_5.out;subst e_));obtain ⟨ad198,e198,hx198_0⟩:=Kd.at_int (Kd.R_reads' HO_5.out).2.2 (rd (zAE l0_2 x8_3) x9_4) p198 q198;obtain rfl:(⟨go20,0,none⟩:Addr) = ad198:=(by injection e198);(first|simp only [add_plain] at hx198_0|simp only [add_at] at hx198_0|simp only [Addr.add,Nat.zero_add] at hx198_0|skip);replace p198:=qT p198;replace q198:=qT q198;go_wp2;(try simp only [← hl5_4]);go_roundg k4
                       case measure=>have:=HK1.out;have:=HK2.out;have:=HK3.out;have:=HK4.out;omega
                       case rel=>exact ⟨(x5_4),(wrap64 (x9_4 + 1)),qr,H',⟨by have:=HK1.out;have:=HK2.out;have:=HK3.out;have:=HK4.out;omega⟩,⟨by (try simp only [hl5_4]);(with_reducible repeat (first|apply Kd.R_alloc|apply Kd.R_drewN|apply Kd.R_drew));exact HO_5.out⟩,⟨by (try simp only [hl5_4]);(with_reducible repeat (first|refine zL ?_ _|refine zM ?_|refine zK ?_ _));exact BK187.out⟩,⟨qb⟩⟩
                     ·nomatch H
                    ·nomatch H
                   ·nomatch H
                  ·rw [if_neg c26] at H;have c26b0:decide (x9_4 < ((zAE l0_2 x8_3).length:Int)) = false:=zR c26;(try rw [hl5_4] at c26b0);clear c26;have H':=zA H;clear H;have hcz36_0:=qx BK187 0;have hcz36_1:=qx BK187 1;have hcz36_2:=qx BK187 2;have hcz36_3:=qx BK187 3;have hcz36_4:=qx BK187 4;have hfz36_0:=zJ BK187.out;have p195:0 ≤ (x8_3:Int):=qd;have q195:x8_3 < (l0_2.length:Int):=qd;obtain ⟨ad195,A195_0,c195_0,e195,hx195_0,hl195_0,hi195_0⟩:=zAW HR0_2.out x8_3 p195 q195;cases e195;replace hx195_0:=qy HB hx195_0;have HR195_0:=zA hi195_0;have HC195_0:=zA hl195_0;clear hi195_0 hl195_0;replace p195:=qT p195;replace q195:=qT q195;go_wp2;(try simp only [← hl5_4]);go_roundg k4
                   case measure=>have:=HK1.out;have:=HK2.out;have:=HK3.out;have:=HK4.out;omega
                   case rel=>exact ⟨(x5_4),(true),(wrap64 (x8_3 + 1)),qr,qr,H',⟨by have:=HK1.out;have:=HK2.out;have:=HK3.out;have:=HK4.out;omega⟩,⟨by (try simp only [hl5_4]);(with_reducible repeat (first|apply Kd.R_alloc|apply Kd.R_drewN|apply Kd.R_drew));exact HO_5.out⟩,⟨by (try simp only [hl5_4]);(with_reducible repeat (first|refine zL ?_ _|refine zM ?_|refine zK ?_ _));exact BK187.out⟩,⟨qb⟩⟩
                 ·nomatch H
                ·nomatch H
             ·have H':=zA H;clear H;obtain ⟨Ao37,co37,eo37⟩:=Kd.R_slice HO_5.out;subst eo37;have p193:0 ≤ (x8_3:Int):=qd;have q193:x8_3 < (x5_3.length:Int):=qd;(try (obtain ⟨A_,c_,e_⟩:=Kd.R_slice HO_5.out;subst e_));obtain ⟨ad193,e193,hx193_0⟩:=Kd.at_int (Kd.R_reads' HO_5.out).2.2 x8_3 p193 q193;cases e193;replace p193:=qT p193;replace q193:=qT q193;go_wp2;go_roundg k3
              case measure=>have:=HK1.out;have:=HK2.out;have:=HK3.out;omega
              case rel=>exact ⟨(x5_3),(x7_3),(wrap64 (x8_3 + 1)),qr,qr,H',⟨qq HK1 HK2 HK3⟩,⟨qR HO_5⟩,⟨qk BK187⟩,⟨qb⟩⟩
            ·nomatch H
           ·have H':=zA H;clear H;obtain ⟨Ao38,co38,eo38⟩:=Kd.R_slice HO_5.out;subst eo38;go_wp2;go_roundg k3
            case measure=>have:=HK1.out;have:=HK2.out;have:=HK3.out;omega
            case rel=>exact ⟨(x5_3),(x7_3),qr,H',⟨qq HK1 HK2 HK3⟩,⟨qR HO_5⟩,⟨qk BK187⟩,⟨qb⟩⟩
        ·replace c16:=Bool.eq_false_iff.mpr c16;subst c16;rw [if_neg (show ¬ (false = true) by decide)] at H
         have H':=zA H;clear H;go_wp2;go_loopg [10,11] k2 (fun kq v10 v11 w'=>∃ (x10_3:List Bool) (x11_3:Int),v11 = .int .i64 x11_3∧Aside0 (zAB.l4 kq x5_2 x10_3 x11_3 = some r)∧Aside0 (kq ≤ k2)∧Aside0 (Kd.R (Kd.int .i64) 3 w' w.heap.size (fun _=>True) v189 x5_2)∧Aside0 (Kd.R Kd.bool 4 w' w.heap.size (fun _=>True) v10 x10_3)∧Aside0 (w'.heap[gb187]? = some (.cells #[(.slice A0_0 l0_0.length c0_0),.int .i64 a0_1,(.slice A0_2 l0_2.length c0_2),(.slice A0_3 l0_3.length c0_3),.int .i64 a0_4] 26 (0,0)))∧Aside0 (Below w.heap.size w w'))
         case atStart=>exact ⟨(([]:List Bool)),(0),qr,H',⟨Nat.le_refl _⟩,⟨qR HO_5⟩,⟨ql⟩,⟨qk BK187⟩,⟨qb⟩⟩
         case round =>
          clear H';obtain ⟨x10_3,x11_3,rfl,HA,HK3,HO_5,HO_10,BK187,HB⟩:=hrel;cases gk with
          | zero=>exact absurd HA.out (by simp [zAB.l4])
          | succ k3 =>
           have H:=HA.out;clear HA;simp only [zAB.l4] at H;rcases qj H with ⟨c39b0,H⟩|⟨c39b0,H⟩
           ·rcases qj H with ⟨c40b0,H⟩|⟨c40,H⟩
            ·by_cases c41:x10_3.length < 140737488355328
             ·rw [if_pos c41] at H;have LMc41:=zA c41;clear c41;generalize hy203:(x10_3 ++ [decide ((rd x5_2 x11_3) > 0)]) = y203 at H;replace hy203:=hy203.symm
              have Ny203:=zA hy203;clear hy203;have H':=zA H;clear H;obtain ⟨Ao42,co42,eo42⟩:=Kd.R_slice HO_5.out;subst eo42;have p202:0 ≤ (x11_3:Int):=qd;have q202:x11_3 < (x5_2.length:Int):=qd;(try (obtain ⟨A_,c_,e_⟩:=Kd.R_slice HO_5.out;subst e_));obtain ⟨ad202,e202,hx202_0⟩:=Kd.at_int (Kd.R_reads' HO_5.out).2.2 x11_3 p202 q202;cases e202;replace p202:=qT p202;replace q202:=qT q202;go_wp2_with (first|((with_reducible refine gate_builtin (b:=.append) (xs:=#[.tmp 81,.tmp 87]) rfl ?_);at_builtin;refine Kd.R_append Kd.bool (w0:=w) w.heap.size rfl (.tmp 81) (.tmp 87) 46 4 (.bool false) 1 rfl Try.underlying46 info4 rfl (by decide) (by omega) u10 x10_3 (decide ((rd x5_2 x11_3) > 0)) [.bool (decide ((rd x5_2 x11_3) > 0))] (fun _=>True) (fun _=>False) rfl rfl rfl (fun _ hk=>hk.elim) (fun _ _=>trivial) (qR HO_10) qb qs (qo LMc41) ?_;intro v204 w43 ho hb hg hat;rw [← Ny203.out] at ho;replace HO_5:=zA (Kd.R_over' (qR HO_5) (Kd.R_typed (qR HO_10)) (by decide) hg);replace BK187:=zA (blk_grown (g:=gb187) (o:=.cells #[.slice A0_0 l0_0.length c0_0,.int .i64 a0_1,.slice A0_2 l0_2.length c0_2,.slice A0_3 l0_3.length c0_3,.int .i64 a0_4] 26 (0,0)) (qk BK187) hg (Kd.R_ne HO_10.out BK187.out (by decide)));replace HB:=zA (hb);have HO205:=zA (ho);clear HO_10;clear ho hb hg hat));go_roundg k3
              case measure=>have:=HK1.out;have:=HK2.out;have:=HK3.out;omega
              case rel=>exact ⟨(y203),(wrap64 (x11_3 + 1)),qr,H',⟨qq HK1 HK2 HK3⟩,⟨qR HO_5⟩,⟨qR HO205⟩,⟨qk BK187⟩,⟨qb⟩⟩
             ·rw [if_neg c41] at H;nomatch H
            ·nomatch H
           ·obtain rfl:=Option.some.inj H;obtain ⟨Ao44,co44,eo44⟩:=Kd.R_slice HO_5.out;subst eo44;go_wp2;go_ret;exact ⟨_,qe,qR HO_10,qb⟩
  ·rw [if_neg c4] at H;nomatch H
 ·rw [if_neg c3] at H;nomatch H
theorem eqA63 (d:Nat) (w:World) (x0 y0:Int) (x1 y1:Int) :
  (Op.equalIn (d + 2) 63 (.agg #[.int .i64 x0,.int .i64 x1]) (.agg #[.int .i64 y0,.int .i64 y1])).run Try.prog w = .ok (x0 == y0 && (x1 == y1)) w:=by
 refine eqA_of Try.underlying63 (by kernel_rfl) ?_;refine eqf_cons (by rfl) (by go_simp;rfl) (by go_simp;rfl) (by go_simp) ?_;exact eqf_last (by rfl) (by go_simp;rfl) (by go_simp;rfl) (by go_simp)
def zAG.l0:Nat → List Int → List Int → Int → Option (Bool)
 | 0,_,_,_=>none
 | k + 1,x0,x1,x5=>if x5 < (x0.length:Int) then (if 0 ≤ x5 then (if x5 < (x1.length:Int) then (if (rd x0 x5) = (rd x1 x5) then (zAG.l0 k x0 x1 (wrap64 (x5 + 1))) else (some false)) else (none)) else (none)) else (some true)
def zAG.f (k:Nat) (l0:List Int) (l1:List Int):Option (Bool):=if (l0.length:Int) = (l1.length:Int) then (zAG.l0 k l0 l1 0) else (some false)
theorem zAG.mono_l:∀ k,(∀ y0 y1 y2,LeO (zAG.l0 k y0 y1 y2) (zAG.l0 (k + 1) y0 y1 y2))
 | 0=>fun _ _ _ r h=>by simp [zAG.l0] at h
 | k + 1=>by
  have ih0:=zAG.mono_l k
  ·intro y0 y1 y2
   unfold zAG.l0
   exact qL
theorem zAG.mono:∀ a0 a1 k,LeO (zAG.f k a0 a1) (zAG.f (k + 1) a0 a1):=by
 intro a0 a1 k;have ih0:=zAG.mono_l k;unfold zAG.f;exact qL
set_option maxHeartbeats 8000000 in
set_option maxRecDepth 100000 in
theorem zAG.calls (k:Nat) (A0:Option Addr) (c0:Nat) (l0:List Int) (A1:Option Addr) (c1:Nat) (l1:List Int) (r:Bool) (w:World) (hr0:Kd.C (Kd.int .i64) w A0 l0.length l0) (hc0:l0.length ≤ c0) (hr1:Kd.C (Kd.int .i64) w A1 l1.length l1) (hc1:l1.length ≤ c1) (h:zAG.f k l0 l1 = some r) :
  Calls Try.prog 23 #[.slice A0 l0.length c0,.slice A1 l1.length c1] w fun e w'=>e = .returned (.bool r)∧Drawn0 w w':=by
 have HR0:=zA hr0;have HC0:=zA hc0;clear hr0 hc0;have HR1:=zA hr1;have HC1:=zA hc1;clear hr1 hc1;have H:(if (l0.length:Int) = (l1.length:Int) then (zAG.l0 k l0 l1 0) else (some false)) = some r:=h;clear h;by_cases c3:(l0.length:Int) = (l1.length:Int)
 ·rw [if_pos c3] at H;have c3b0:((l0.length:Int) == (l1.length:Int)) = true:=beq_iff_eq.mpr c3;have c3b1:((l0.length:Int) != (l1.length:Int)) = false:=bne_eq_false_iff_eq.mpr c3;have c3b2:(l0.length == l1.length) = true:=by first|simpa using c3|(simp at c3 ⊢;omega)
  clear c3;have H':=zA H;clear H;go_enter Try.func23,Try.ntmps23;go_wp2;(repeat (go_quiet (fail);try go_wp2));go_loopg [5] k (fun kq v5 w'=>∃ (x5_1:Int),v5 = .int .i64 x5_1∧Aside0 (zAG.l0 kq l0 l1 x5_1 = some r)∧Aside0 (kq ≤ k)∧Drawn0 w w')
  case atStart=>exact ⟨(0),qr,H',⟨Nat.le_refl _⟩,qt⟩
  case round =>
   clear H';obtain ⟨x5_1,rfl,HA,HK1,⟨m1,rfl⟩⟩:=hrel;cases gk with
   | zero=>exact absurd HA.out (by simp [zAG.l0])
   | succ k1 =>
    have H:=HA.out;clear HA;simp only [zAG.l0] at H;rcases qj H with ⟨c4b0,H⟩|⟨c4b0,H⟩
    ·rcases qj H with ⟨c5b0,H⟩|⟨c5,H⟩
     ·rcases qj H with ⟨c6b0,H⟩|⟨c6,H⟩
      ·rcases qE H with ⟨c7b0,c7b1,H⟩|⟨c7,c7b0,c7b1,H⟩
       ·have H':=zA H;clear H;have p234:0 ≤ (x5_1:Int):=qd;have q234:x5_1 < (l0.length:Int):=qd;obtain ⟨ad234,e234,hx234_0⟩:=Kd.at_int HR0.out x5_1 p234 q234;cases e234;replace p234:=qT p234;replace q234:=qT q234;have p235:0 ≤ (x5_1:Int):=qd;have q235:x5_1 < (l1.length:Int):=qd;obtain ⟨ad235,e235,hx235_0⟩:=Kd.at_int HR1.out x5_1 p235 q235;cases e235;replace p235:=qT p235;replace q235:=qT q235;go_wp2;(repeat (go_quiet (fail);try go_wp2));go_roundg k1
        case measure=>have:=HK1.out;omega
        case rel=>exact ⟨(wrap64 (x5_1 + 1)),qr,H',⟨qo HK1⟩,qt⟩
       ·obtain rfl:=Option.some.inj H;have p234:0 ≤ (x5_1:Int):=qd;have q234:x5_1 < (l0.length:Int):=qd;obtain ⟨ad234,e234,hx234_0⟩:=Kd.at_int HR0.out x5_1 p234 q234;cases e234;replace p234:=qT p234;replace q234:=qT q234;have p235:0 ≤ (x5_1:Int):=qd;have q235:x5_1 < (l1.length:Int):=qd;obtain ⟨ad235,e235,hx235_0⟩:=Kd.at_int HR1.out x5_1 p235 q235;cases e235;replace p235:=qT p235;replace q235:=qT q235;go_wp2;(repeat (go_quiet (fail);try go_wp2));go_ret;exact ⟨qr,qt⟩
      ·nomatch H
     ·nomatch H
    ·obtain rfl:=Option.some.inj H;go_wp2;(repeat (go_quiet (fail);try go_wp2));go_ret;exact ⟨qr,qt⟩
 ·rw [if_neg c3] at H;have c3b0:((l0.length:Int) == (l1.length:Int)) = false:=beq_eq_false_iff_ne.mpr c3;have c3b1:((l0.length:Int) != (l1.length:Int)) = true:=bne_iff_ne.mpr c3;have c3b2:(l0.length == l1.length) = false:=by first|simpa using c3|(simp at c3 ⊢;omega)
  obtain rfl:=Option.some.inj H;go_enter Try.func23,Try.ntmps23;go_wp2;(repeat (go_quiet (fail);try go_wp2));go_ret;exact ⟨qr,qt⟩
end Go.Proofs.Ytkcghbfmigdomaa.Q
