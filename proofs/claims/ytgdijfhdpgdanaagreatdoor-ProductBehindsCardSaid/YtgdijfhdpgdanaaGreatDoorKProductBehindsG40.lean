import Derived.Test.YtgdijfhdpgdanaaGreatDoorKProductBehindsG39
namespace Go.Proofs.YtgdijfhdpgdanaaGreatDoor.B
open Go.Proofs.YtgdijfhdpgdanaaGreatDoor.Al
open Option renaming bind_eq_some_iff → zb
open Go.Proofs.YtgdijfhdpgdanaaGreatDoorW.PrintWords renaming below_set → zF, below_step → zH, blk_frozen → zJ, gate_callee → zU, gate_dst → zV
open Go.Proofs.YtgdijfhdpgdanaaGreatDoor.Sq Go.RowKit Go.Proofs.YtgdijfhdpgdanaaGreatDoorW.PrintWords Go.Proofs.YtgdijfhdpgdanaaGreatDoorW.PrintLast Go.Proofs.YtgdijfhdpgdanaaGreatDoorW.PrintMore
attribute [local go_sem] max2_int min2_int max_two min_two max_three min_three max_four min_four
set_option linter.unusedVariables false
set_option linter.unusedSimpArgs false
mutual
def zAS.l0:Nat → Int → Int → List Bool → Bool → Int → List (S113) → List (S102) → Option (List Int × Int)
 | 0,_,_,_,_,_,_,_=>none
 | k + 1,x1,x6,x8,x9,x10,x664000,x664001=>if x10 < (x664001.length:Int) then ((zAK.f k x664000 x664001 x1 x10).bind fun bt670=>(if bt670.2 = 0 then (if 0 ≤ bt670.1 then (if bt670.1 < (x8.length:Int) then (zAS.l0 k x1 x6 (x8.set (bt670.1:Int).toNat true) true (wrap64 (x10 + 1)) x664000 x664001) else (none)) else (none)) else (zAS.l0 k x1 x6 x8 x9 (wrap64 (x10 + 1)) x664000 x664001))) else (if x9 = true then (zAS.l1 k x6 x8 ([]:List Int) 0) else (some ((([x1]:List Int)),0)))
def zAS.l1:Nat → Int → List Bool → List Int → Int → Option (List Int × Int)
 | 0,_,_,_,_=>none
 | k + 1,x6,x8,x13,x14=>if x14 < x6 then (if 0 ≤ x14 then (if x14 < (x8.length:Int) then (if rdOf false x8 x14 = true then (if x13.length < 17592186044416 then (zAS.l1 k x6 x8 (x13 ++ [x14]) (wrap64 (x14 + 1))) else (none)) else (zAS.l1 k x6 x8 x13 (wrap64 (x14 + 1)))) else (none)) else (none)) else (some (x13,0))
end
def zAS.f (k:Nat) (l0_0:List (S113)) (l0_1:List (S102)) (a1:Int):Option (List Int × Int):=(zAb.f k l0_0 l0_1).bind fun bt664=>(if bt664.2 = 0 then ((zAE.f a1 0 (wrap64 (bt664.1 - 1))).bind fun t666=>(if t666 = true then (if 0 ≤ bt664.1 then (if (bt664.1:Int).toNat ≤ 281474976710656 then (zAS.l0 k a1 bt664.1 (List.replicate (bt664.1:Int).toNat false) false 0 l0_0 l0_1) else (none)) else (none)) else (some (([]:List Int),9)))) else (some (([]:List Int),bt664.2)))
theorem zAS.mono_l:∀ k,(∀ y0 y1 y2 y3 y4 y5 y6,LeO (zAS.l0 k y0 y1 y2 y3 y4 y5 y6) (zAS.l0 (k + 1) y0 y1 y2 y3 y4 y5 y6))∧(∀ y0 y1 y2 y3,LeO (zAS.l1 k y0 y1 y2 y3) (zAS.l1 (k + 1) y0 y1 y2 y3))
 | 0=>⟨fun _ _ _ _ _ _ _ r h=>by simp [zAS.l0] at h,fun _ _ _ _ r h=>by simp [zAS.l1] at h⟩
 | k + 1=>by
  obtain ⟨ih0,ih1⟩:=zAS.mono_l k
  refine ⟨?_,?_⟩
  ·intro y0 y1 y2 y3 y4 y5 y6
   unfold zAS.l0
   exact qM (And.intro @zAK.mono @zAb.mono)
  ·intro y0 y1 y2 y3
   unfold zAS.l1
   exact qM (And.intro @zAK.mono @zAb.mono)
theorem zAS.mono:∀ a0 a1 a2 k,LeO (zAS.f k a0 a1 a2) (zAS.f (k + 1) a0 a1 a2):=by
 intro a0 a1 a2 k;obtain ⟨ih0,ih1⟩:=zAS.mono_l k;unfold zAS.f;exact qM (And.intro @zAK.mono @zAb.mono)
set_option maxHeartbeats 8000000 in
set_option maxRecDepth 100000 in
theorem zAS.calls (k:Nat) (A0_0:Option Addr) (c0_0:Nat) (l0_0:List (S113)) (A0_1:Option Addr) (c0_1:Nat) (l0_1:List (S102)) (a1:Int) (r1:List Int) (r2:Int) (w:World) (hr0_0:Kd.C k113 w A0_0 l0_0.length l0_0) (hc0_0:l0_0.length ≤ c0_0) (hr0_1:Kd.C k102 w A0_1 l0_1.length l0_1) (hc0_1:l0_1.length ≤ c0_1) (h:zAS.f k l0_0 l0_1 a1 = some (r1,r2)) :
  Calls Tryz.prog 31 #[.agg #[.slice A0_0 l0_0.length c0_0,.slice A0_1 l0_1.length c0_1],.int .i64 a1] w fun e w'=>∃ v0_:Value,e = .returned (.tuple #[v0_,.int .i64 r2])∧Kd.R (Kd.int .i64) 3 w' w.heap.size (fun _=>True) v0_ r1∧Below w.heap.size w w':=by
 have hu25:=Tryz.underlying25;have HR0_0:=zA hr0_0;have HC0_0:=zA hc0_0;clear hr0_0 hc0_0;have HR0_1:=zA hr0_1;have HC0_1:=zA hc0_1;clear hr0_1 hc0_1;have HB:=zA (Below.refl w.heap.size w);have H:((zAb.f k l0_0 l0_1).bind fun bt664=>(if bt664.2 = 0 then ((zAE.f a1 0 (wrap64 (bt664.1 - 1))).bind fun t666=>(if t666 = true then (if 0 ≤ bt664.1 then (if (bt664.1:Int).toNat ≤ 281474976710656 then (zAS.l0 k a1 bt664.1 (List.replicate (bt664.1:Int).toNat false) false 0 l0_0 l0_1) else (none)) else (none)) else (some (([]:List Int),9)))) else (some (([]:List Int),bt664.2)))) = some (r1,r2):=h;clear h;replace H:=zb.mp H;obtain ⟨⟨t664,t665⟩,A30,H⟩:=H;(try dsimp only at H);have A3:=zA A30;clear A30;rcases qE H with ⟨c4b0,c4b1,H⟩|⟨c4,c4b0,c4b1,H⟩
 ·replace H:=zb.mp H;obtain ⟨t666,A50,H⟩:=H;(try dsimp only at H);have A5:=zA A50;clear A50;by_cases c6:t666 = true
  ·subst c6;rw [if_pos rfl] at H
   by_cases c7:0 ≤ t664
   ·rw [if_pos c7] at H;have c7b0:=qT c7;have c7b1:decide (0 ≤ t664) = true:=zQ c7;clear c7;by_cases c8:(t664:Int).toNat ≤ 281474976710656
    ·rw [if_pos c8] at H;have c8b0:=qT c8;have c8b1:decide ((t664:Int).toNat ≤ 281474976710656) = true:=zQ c8;clear c8;obtain ⟨y667,hy667⟩:∃ y_:List Bool,y_ = (List.replicate (t664:Int).toNat false):=⟨_,rfl⟩;replace H:(zAS.l0 k a1 t664 y667 false 0 l0_0 l0_1) = some (r1,r2):=by first|(rw [hy667];with_reducible exact H)|(have H2_:=(Option.bind_some _ _).symm.trans H;rw [hy667];with_reducible exact H2_)|(have H2_:=(Option.bind_some _ _).symm.trans H;with_reducible exact H2_)|with_reducible exact H|(rw [hy667];exact H)|exact H
     have Ny667:=zA hy667;clear hy667;have H':=zA H;clear H;go_enter Tryz.func31,Tryz.ntmps31;go_wp2_with (first|((with_reducible refine zV (N:=2) rfl ?_);refine bQ 2 (cs:=#[.slice A0_0 l0_0.length c0_0,.slice A0_1 l0_1.length c0_1]) (t:=25) ?_;intro gb663 hg w9 BK663 hb;have GW663:=zA (qg hg);replace HB:=zA (zH qb hb);clear hb hg;obtain ⟨hcz10_0,hcz10_1⟩:=q2 BK663;have hfz10_0:=zJ BK663.out)|((with_reducible refine zU (f:=27) rfl ?_);refine gL (some 17) Tryz.func27 #[.agg #[.slice A0_0 l0_0.length c0_0,.slice A0_1 l0_1.length c0_1]] ?_;(with_reducible refine (zAb.calls k _ _ l0_0 _ _ l0_1 t664 t665 _ (qc HR0_0) HC0_0.out (qc HR0_1) HC0_1.out A3.out).mono ?_);rintro e w11 ⟨rfl,hb⟩;refine ⟨_,rfl,?_⟩;replace BK663:=qK BK663 hb;replace HB:=zA (zH qb hb);clear hb)|((with_reducible refine zU (f:=29) rfl ?_);refine gL (some 26) Tryz.func29 #[.int .i64 a1,.int .i64 0,.int .i64 (wrap64 (t664 - 1))] ?_;(with_reducible refine (zAE.calls a1 0 (wrap64 (t664 - 1)) true _ A5.out).mono ?_);rintro e w' ⟨rfl,⟨nd,rfl⟩⟩;refine ⟨_,rfl,?_⟩)|((with_reducible refine zV (N:=29) rfl ?_);refine Kd.R_make Kd.bool _ 4 rfl (N:=29) rfl 55 _ _ rfl t664 rfl rfl Tryz.underlying55 (.bool false) 1 info4 rfl (by decide) (by omega) false (ok:=fun _=>True) (okp:=fun _=>True) rfl (fun _ hk=>hk) trivial (qd) (Nat.le_trans (Nat.mul_le_mul_right _ (qd:t664.toNat ≤ 281474976710656)) (by omega)) (Below.refl _ _) (Nat.le_refl _) ?_;intro v668 w12 ho13 hb hg_ hnew_;clear hg_ hnew_;(first|rw [← Ny667.out] at ho13|(simp only [Int.reduceToNat] at ho13;rw [← Ny667.out] at ho13));have HO669:=zA (Kd.R_lower ho13 qs);replace BK663:=qK BK663 hb;replace HB:=zA (zH qb hb);clear hb ho13));go_loopg [9,10] k (fun kq v9 v10 w'=>∃ (x8_1:List Bool) (x9_1:Bool) (x10_1:Int),v9 = .bool x9_1∧v10 = .int .i64 x10_1∧Aside0 (zAS.l0 kq a1 t664 x8_1 x9_1 x10_1 l0_0 l0_1 = some (r1,r2))∧Aside0 (kq ≤ k)∧Aside0 (Kd.R Kd.bool 4 w' w.heap.size (fun _=>True) v668 x8_1)∧Aside0 (w'.heap[gb663]? = some (.cells #[(.slice A0_0 l0_0.length c0_0),(.slice A0_1 l0_1.length c0_1)] 25 (0,0)))∧Aside0 (Below w.heap.size w w'))
     case atStart=>exact ⟨(y667),(false),(0),qr,qr,H',⟨Nat.le_refl _⟩,⟨qR HO669⟩,⟨qk BK663⟩,⟨qb⟩⟩
     case round =>
      clear H';obtain ⟨x8_1,x9_1,x10_1,rfl,rfl,HA,HK1,HO_8,BK663,HB⟩:=hrel;cases gk with
      | zero=>exact absurd HA.out (by simp [zAS.l0])
      | succ k1 =>
       have H:=HA.out;clear HA;simp only [zAS.l0] at H;rcases qj H with ⟨c14b0,H⟩|⟨c14b0,H⟩
       ·replace H:=zb.mp H;obtain ⟨⟨t670,t671⟩,A150,H⟩:=H;(try dsimp only at H);have A15:=zA A150;clear A150;rcases qE H with ⟨c16b0,c16b1,H⟩|⟨c16,c16b0,c16b1,H⟩
        ·rcases qj H with ⟨c17b0,H⟩|⟨c17,H⟩
         ·rcases qj H with ⟨c18b0,H⟩|⟨c18,H⟩
          ·generalize hy672:(x8_1.set (t670:Int).toNat true) = y672 at H;replace hy672:=hy672.symm
           have Ny672:=zA hy672;clear hy672;have H':=zA H;clear H;obtain ⟨hcz20_0,hcz20_1⟩:=q2 BK663;have hfz20_0:=zJ BK663.out;go_wp2_with (first|((with_reducible refine zU (f:=67) rfl ?_);refine gL (some 41) Tryz.func67 #[.agg #[.slice A0_0 l0_0.length c0_0,.slice A0_1 l0_1.length c0_1],.int .i64 a1,.int .i64 x10_1] ?_;(with_reducible refine (zAK.calls k1 _ _ l0_0 _ _ l0_1 a1 x10_1 t670 t671 _ (qc HR0_0) HC0_0.out (qc HR0_1) HC0_1.out A15.out).mono ?_);rintro e w21 ⟨rfl,hb⟩;refine ⟨_,rfl,?_⟩;replace HO_8:=zA (Kd.R_below (qR HO_8) hb);replace BK663:=qK BK663 hb;replace HB:=zA (zH qb hb);clear hb;have p19:0 ≤ (t670:Int):=qd;have q19:(t670:Int) < ((x8_1.length:Int):Int):=qd;obtain ⟨go19,co19,eo19,gb19,gl19,cl19,HG19⟩:=Kd.R_form HO_8.out (by omega);(first|cases eo19|(injection eo19 with ea_ en_ ec_;(first|subst ea_|(injection ea_ with ea_;subst ea_));subst ec_;clear en_));have GB19:=zA gb19;have GG19:=zA HG19;clear gb19 gl19 HG19;obtain ⟨hx19_0,hf19_0⟩:=Kd.R_celln false HO_8.out (t670:Int) p19 q19;replace p19:=qT p19;replace q19:=qT q19;obtain ⟨hy22_,hz22_⟩:=Kd.R_celln false HO_8.out (t670:Int) (qd) (qd);have HP22:=Kd.R_putg HO_8.out (t670:Int) true)|((with_reducible refine gate_store (t:=4) (p:=48) rfl ?_);refine zBU (t:=4) (p:=48) (v:=?vo_w23) (w1:=(w21.setCell ⟨go19,(t670:Int).toNat,none⟩ (.bool true))) ?hg ?ho ?hn ?hr ?_;(case ho=>rfl);(case hg=>rfl);(case hn=>rfl);(case hr=>first|(go_simp;done)|(go_simp;rfl));intro w23 hw;have hg:w21.grownBy w23 (some go19):=(by rw [hw];exact HP22.2);have hp_:Kd.R Kd.bool 4 w23 w.heap.size (fun _=>True) (.slice (some ⟨go19,0,none⟩) x8_1.length co19) y672:=(by rw [hw,Ny672.out];exact HP22.1);clear HP22;replace BK663:=zA (blk_grown (g:=gb663) (o:=.cells #[.slice A0_0 l0_0.length c0_0,.slice A0_1 l0_1.length c0_1] 25 (0,0)) (qk BK663) hg (Kd.R_ne HO_8.out BK663.out (by decide)));replace HO_8:=zA (hp_);replace HB:=zA ((by rw [hw];exact zF (HB.out) GB19.out:Below w.heap.size w w23));clear hg hw hp_));go_roundg k1
           case measure=>have:=HK1.out;omega
           case rel=>exact ⟨(y672),(true),(wrap64 (x10_1 + 1)),qr,qr,H',⟨qo HK1⟩,⟨qR HO_8⟩,⟨qk BK663⟩,⟨qb⟩⟩
          ·nomatch H
         ·nomatch H
        ·have H':=zA H;clear H;obtain ⟨hcz24_0,hcz24_1⟩:=q2 BK663;have hfz24_0:=zJ BK663.out;go_wp2_with (first|((with_reducible refine zU (f:=67) rfl ?_);refine gL (some 41) Tryz.func67 #[.agg #[.slice A0_0 l0_0.length c0_0,.slice A0_1 l0_1.length c0_1],.int .i64 a1,.int .i64 x10_1] ?_;(with_reducible refine (zAK.calls k1 _ _ l0_0 _ _ l0_1 a1 x10_1 t670 t671 _ (qc HR0_0) HC0_0.out (qc HR0_1) HC0_1.out A15.out).mono ?_);rintro e w25 ⟨rfl,hb⟩;refine ⟨_,rfl,?_⟩;replace HO_8:=zA (Kd.R_below (qR HO_8) hb);replace BK663:=qK BK663 hb;replace HB:=zA (zH qb hb);clear hb));go_roundg k1
         case measure=>have:=HK1.out;omega
         case rel=>exact ⟨(x8_1),(x9_1),(wrap64 (x10_1 + 1)),qr,qr,H',⟨qo HK1⟩,⟨qR HO_8⟩,⟨qk BK663⟩,⟨qb⟩⟩
       ·by_cases c26:x9_1 = true
        ·subst c26;rw [if_pos rfl] at H
         have H':=zA H;clear H;obtain ⟨hcz27_0,hcz27_1⟩:=q2 BK663;have hfz27_0:=zJ BK663.out;go_wp2;go_loopg [13,14] k1 (fun kq v13 v14 w'=>∃ (x13_2:List Int) (x14_2:Int),v14 = .int .i64 x14_2∧Aside0 (zAS.l1 kq t664 x8_1 x13_2 x14_2 = some (r1,r2))∧Aside0 (kq ≤ k1)∧Aside0 (Kd.R Kd.bool 4 w' w.heap.size (fun _=>True) v668 x8_1)∧Aside0 (Kd.R (Kd.int .i64) 3 w' w.heap.size (fun _=>True) v13 x13_2)∧Aside0 (w'.heap[gb663]? = some (.cells #[(.slice A0_0 l0_0.length c0_0),(.slice A0_1 l0_1.length c0_1)] 25 (0,0)))∧Aside0 (Below w.heap.size w w'))
         case atStart=>exact ⟨(([]:List Int)),(0),qr,H',⟨Nat.le_refl _⟩,⟨qR HO_8⟩,⟨ql⟩,⟨qk BK663⟩,⟨qb⟩⟩
         case round =>
          clear H';obtain ⟨x13_2,x14_2,rfl,HA,HK2,HO_8,HO_13,BK663,HB⟩:=hrel;cases gk with
          | zero=>exact absurd HA.out (by simp [zAS.l1])
          | succ k2 =>
           have H:=HA.out;clear HA;simp only [zAS.l1] at H;rcases qj H with ⟨c28b0,H⟩|⟨c28b0,H⟩
           ·rcases qj H with ⟨c29b0,H⟩|⟨c29,H⟩
            ·rcases qj H with ⟨c30b0,H⟩|⟨c30,H⟩
             ·obtain ⟨bq31,hbq31⟩:∃ b_:Bool,b_ = (rdOf false x8_1 x14_2):=⟨_,rfl⟩;replace H:(if bq31 = true then (if x13_2.length < 17592186044416 then (zAS.l1 k2 t664 x8_1 (x13_2 ++ [x14_2]) (wrap64 (x14_2 + 1))) else (none)) else (zAS.l1 k2 t664 x8_1 x13_2 (wrap64 (x14_2 + 1)))) = some (r1,r2):=by rw [← hbq31] at H;exact H
              have Nbq31:=zA hbq31;clear hbq31;by_cases c32:bq31 = true
              ·subst c32;rw [if_pos rfl] at H
               by_cases c33:x13_2.length < 17592186044416
               ·rw [if_pos c33] at H;have LMc33:=zA c33;clear c33;generalize hy677:(x13_2 ++ [x14_2]) = y677 at H;replace hy677:=hy677.symm
                have Ny677:=zA hy677;clear hy677;have H':=zA H;clear H;obtain ⟨Ao34,co34,eo34⟩:=Kd.R_slice HO_8.out;subst eo34;have p676:0 ≤ (x14_2:Int):=qd;have q676:x14_2 < (x8_1.length:Int):=qd;(try (obtain ⟨A_,c_,e_⟩:=Kd.R_slice HO_8.out;subst e_));obtain ⟨ad676,e676,hx676_0⟩:=Kd.at_bool (Kd.R_reads' HO_8.out).2.2 x14_2 p676 q676;(try rw [← Nbq31.out] at hx676_0);cases e676;replace p676:=qT p676;replace q676:=qT q676;go_wp2_with (first|((with_reducible refine gate_builtin (b:=.append) (xs:=#[.tmp 62,.tmp 64]) rfl ?_);at_builtin;refine Kd.R_append (Kd.int .i64) (w0:=w) w.heap.size rfl (.tmp 62) (.tmp 64) 39 3 (.int .i64 0) 8 rfl Tryz.underlying39 info3 rfl (by decide) (by omega) u13 x13_2 x14_2 [.int .i64 x14_2] (fun _=>True) (fun _=>False) rfl rfl rfl (fun _ hk=>hk.elim) (fun _ _=>trivial) (qR HO_13) qb qs (qo LMc33) ?_;intro v678 w35 ho hb hg hat;rw [← Ny677.out] at ho;replace HO_8:=zA (Kd.R_over' (qR HO_8) (Kd.R_typed (qR HO_13)) (by decide) hg);replace BK663:=zA (blk_grown (g:=gb663) (o:=.cells #[.slice A0_0 l0_0.length c0_0,.slice A0_1 l0_1.length c0_1] 25 (0,0)) (qk BK663) hg (Kd.R_ne HO_13.out BK663.out (by decide)));replace HB:=zA (hb);have HO679:=zA (ho);clear HO_13;clear ho hb hg hat));go_roundg k2
                case measure=>have:=HK1.out;have:=HK2.out;omega
                case rel=>exact ⟨(y677),(wrap64 (x14_2 + 1)),qr,H',⟨qp HK1 HK2⟩,⟨qR HO_8⟩,⟨qR HO679⟩,⟨qk BK663⟩,⟨qb⟩⟩
               ·rw [if_neg c33] at H;nomatch H
              ·replace c32:=Bool.eq_false_iff.mpr c32;subst c32;rw [if_neg (show ¬ (false = true) by decide)] at H
               have H':=zA H;clear H;obtain ⟨Ao36,co36,eo36⟩:=Kd.R_slice HO_8.out;subst eo36;have p676:0 ≤ (x14_2:Int):=qd;have q676:x14_2 < (x8_1.length:Int):=qd;(try (obtain ⟨A_,c_,e_⟩:=Kd.R_slice HO_8.out;subst e_));obtain ⟨ad676,e676,hx676_0⟩:=Kd.at_bool (Kd.R_reads' HO_8.out).2.2 x14_2 p676 q676;(try rw [← Nbq31.out] at hx676_0);cases e676;replace p676:=qT p676;replace q676:=qT q676;go_wp2;go_roundg k2
               case measure=>have:=HK1.out;have:=HK2.out;omega
               case rel=>exact ⟨(x13_2),(wrap64 (x14_2 + 1)),qr,H',⟨qp HK1 HK2⟩,⟨qR HO_8⟩,⟨qR HO_13⟩,⟨qk BK663⟩,⟨qb⟩⟩
             ·nomatch H
            ·nomatch H
           ·obtain ⟨rfl,rfl⟩:=qP H;go_wp2;go_ret2;exact ⟨_,qe,qR HO_13,qb⟩
        ·replace c26:=Bool.eq_false_iff.mpr c26;subst c26;rw [if_neg (show ¬ (false = true) by decide)] at H
         obtain ⟨y673,hy673⟩:∃ y_:List Int,y_ = (([a1]:List Int)):=⟨_,rfl⟩;replace H:(some (y673,0)) = some (r1,r2):=by first|(rw [hy673];with_reducible exact H)|(have H2_:=(Option.bind_some _ _).symm.trans H;rw [hy673];with_reducible exact H2_)|(have H2_:=(Option.bind_some _ _).symm.trans H;with_reducible exact H2_)|with_reducible exact H|(rw [hy673];exact H)|exact H
         have Ny673:=zA hy673;clear hy673;obtain ⟨rfl,rfl⟩:=qP H;obtain ⟨hcz37_0,hcz37_1⟩:=q2 BK663;have hfz37_0:=zJ BK663.out;go_wp2_with (first|((with_reducible refine zV (N:=52) rfl ?_);refine Kd.R_lit (Kd.int .i64) _ 3 ?hg (N:=52) ?hd (xs:=([a1]:List Int)) (inner:=[.int .i64 a1]) (ok:=fun _=>True) (okp:=fun _=>True) ?hr ?hp (fun _ hk=>hk) trivial (Below.refl _ _) (Nat.le_refl _) (by simp) ?_;(case hd=>rfl);(case hg=>rfl);(case hr=>first|(go_simp;done)|(go_simp;rfl));(case hp=>exact (Reps.one (show Kd.M (Kd.int .i64) _ _ _ a1 [.int .i64 a1] from rfl) (Reps.none _ _)));intro v674 w38 ho39 hb hg_ hnew_;clear hg_ hnew_;(first|rw [← Ny673.out] at ho39|(simp only [Int.reduceToNat] at ho39;rw [← Ny673.out] at ho39));replace HO_8:=zA (Kd.R_below (qR HO_8) hb);have HO675:=zA (Kd.R_lower ho39 qs);replace BK663:=qK BK663 hb;replace HB:=zA (zH qb hb);clear hb ho39));go_ret2;exact ⟨_,qe,qR HO675,qb⟩
    ·rw [if_neg c8] at H;nomatch H
   ·rw [if_neg c7] at H;nomatch H
  ·replace c6:=Bool.eq_false_iff.mpr c6;subst c6;rw [if_neg (show ¬ (false = true) by decide)] at H
   obtain ⟨rfl,rfl⟩:=qP H;go_enter Tryz.func31,Tryz.ntmps31;go_wp2_with (first|((with_reducible refine zV (N:=2) rfl ?_);refine bQ 2 (cs:=#[.slice A0_0 l0_0.length c0_0,.slice A0_1 l0_1.length c0_1]) (t:=25) ?_;intro gb663 hg w40 BK663 hb;have GW663:=zA (qg hg);replace HB:=zA (zH qb hb);clear hb hg;obtain ⟨hcz41_0,hcz41_1⟩:=q2 BK663;have hfz41_0:=zJ BK663.out)|((with_reducible refine zU (f:=27) rfl ?_);refine gL (some 17) Tryz.func27 #[.agg #[.slice A0_0 l0_0.length c0_0,.slice A0_1 l0_1.length c0_1]] ?_;(with_reducible refine (zAb.calls k _ _ l0_0 _ _ l0_1 t664 t665 _ (qc HR0_0) HC0_0.out (qc HR0_1) HC0_1.out A3.out).mono ?_);rintro e w42 ⟨rfl,hb⟩;refine ⟨_,rfl,?_⟩;replace BK663:=qK BK663 hb;replace HB:=zA (zH qb hb);clear hb)|((with_reducible refine zU (f:=29) rfl ?_);refine gL (some 26) Tryz.func29 #[.int .i64 a1,.int .i64 0,.int .i64 (wrap64 (t664 - 1))] ?_;(with_reducible refine (zAE.calls a1 0 (wrap64 (t664 - 1)) false _ A5.out).mono ?_);rintro e w' ⟨rfl,⟨nd,rfl⟩⟩;refine ⟨_,rfl,?_⟩));go_ret2;exact ⟨_,qe,ql,qb⟩
 ·obtain ⟨rfl,rfl⟩:=qP H;go_enter Tryz.func31,Tryz.ntmps31;go_wp2_with (first|((with_reducible refine zV (N:=2) rfl ?_);refine bQ 2 (cs:=#[.slice A0_0 l0_0.length c0_0,.slice A0_1 l0_1.length c0_1]) (t:=25) ?_;intro gb663 hg w43 BK663 hb;have GW663:=zA (qg hg);replace HB:=zA (zH qb hb);clear hb hg;obtain ⟨hcz44_0,hcz44_1⟩:=q2 BK663;have hfz44_0:=zJ BK663.out)|((with_reducible refine zU (f:=27) rfl ?_);refine gL (some 17) Tryz.func27 #[.agg #[.slice A0_0 l0_0.length c0_0,.slice A0_1 l0_1.length c0_1]] ?_;(with_reducible refine (zAb.calls k _ _ l0_0 _ _ l0_1 t664 t665 _ (qc HR0_0) HC0_0.out (qc HR0_1) HC0_1.out A3.out).mono ?_);rintro e w45 ⟨rfl,hb⟩;refine ⟨_,rfl,?_⟩;replace BK663:=qK BK663 hb;replace HB:=zA (zH qb hb);clear hb));go_ret2;exact ⟨_,qe,ql,qb⟩
def zAe.f (k:Nat) (l0:List (S96)) (a1:Int):Option (Int):=(zAa.f k l0 (wrap64 (a1 + 1))).bind fun bt680=>(some bt680.1)
theorem zAe.mono:∀ a0 a1 k,LeO (zAe.f k a0 a1) (zAe.f (k + 1) a0 a1):=by
 intro a0 a1 k;unfold zAe.f;exact qM @zAa.mono
set_option maxHeartbeats 8000000 in
set_option maxRecDepth 100000 in
theorem zAe.calls (k:Nat) (A0:Option Addr) (c0:Nat) (l0:List (S96)) (a1:Int) (r:Int) (w:World) (hr0:Kd.C k96 w A0 l0.length l0) (hc0:l0.length ≤ c0) (h:zAe.f k l0 a1 = some r) :
  Calls Tryz.prog 70 #[.slice A0 l0.length c0,.int .i64 a1] w fun e w'=>e = .returned (.int .i64 r)∧Drawn0 w w':=by
 have HR0:=zA hr0;have HC0:=zA hc0;clear hr0 hc0;have H:((zAa.f k l0 (wrap64 (a1 + 1))).bind fun bt680=>(some bt680.1)) = some r:=h;clear h;replace H:=zb.mp H;obtain ⟨⟨t680,t681⟩,A30,H⟩:=H;(try dsimp only at H);have A3:=zA A30;clear A30;obtain rfl:=Option.some.inj H;go_enter Tryz.func70,Tryz.ntmps70;go_wp2_with (first|((with_reducible refine zU (f:=100) rfl ?_);refine gL (some 11) Tryz.func100 #[.slice A0 l0.length c0,.int .i64 (wrap64 (a1 + 1))] ?_;(with_reducible refine (zAa.calls k _ _ l0 (wrap64 (a1 + 1)) t680 t681 _ (qu HR0.out) HC0.out A3.out).mono ?_);rintro e w' ⟨rfl,⟨nd,rfl⟩⟩;refine ⟨_,rfl,?_⟩));go_ret;exact ⟨qr,qt⟩
mutual
def zAJ.j0:Nat → List (S96) → Int → List Bool → List Int → Int → Bool → Option (Bool)
 | 0,_,_,_,_,_,_=>none
 | k + 1,x0,x1,x2,x3,x4,x43=>if x43 = true then ((zAJ.f k x0 (wrap64 (x1 + 1)) x2 x3 x4).bind fun t686=>((zAe.f k x0 x1).bind fun t687=>((zAJ.f k x0 t687 x2 x3 x4).bind fun t688=>(if t686 = true then (if t688 = true then (some true) else (if 0 ≤ x1 then (if x1 < (x0.length:Int) then (if ((zAI x0 x1).f0) = 9 then (some true) else (some false)) else (none)) else (none))) else (if 0 ≤ x1 then (if x1 < (x0.length:Int) then (if ((zAI x0 x1).f0) = 9 then (some t688) else (some false)) else (none)) else (none)))))) else (zAJ.l0 k x1 x3 x4 0)
def zAJ.l0:Nat → Int → List Int → Int → Int → Option (Bool)
 | 0,_,_,_,_=>none
 | k + 1,x1,x3,x4,x13=>if x13 < (x3.length:Int) then (if 0 ≤ x13 then (if (rd x3 x13) = x1 then (some ((Int.tmod x4 2) == 1)) else (zAJ.l0 k x1 x3 (wrap64 (Int.tdiv x4 2)) (wrap64 (x13 + 1)))) else (none)) else (some false)
def zAJ.f:Nat → List (S96) → Int → List Bool → List Int → Int → Option (Bool)
 | 0,_,_,_,_,_=>none
 | k + 1,l0,a1,l2,l3,a4=>if 0 ≤ a1 then (if a1 < (l0.length:Int) then (if ((zAI l0 a1).f0) = 13 then (if 0 ≤ ((zAI l0 a1).f1) then (if ((zAI l0 a1).f1) < (l2.length:Int) then (some (rdOf false l2 ((zAI l0 a1).f1))) else (none)) else (none)) else (if ((zAI l0 a1).f0) = 11 then (some true) else (if ((zAI l0 a1).f0) = 12 then (some false) else (if ((zAI l0 a1).f0) = 10 then ((zAJ.f k l0 (wrap64 (a1 + 1)) l2 l3 a4).bind fun t685=>(some (!t685))) else (if ((zAI l0 a1).f0) = 8 then (zAJ.j0 k l0 a1 l2 l3 a4 (((zAI l0 a1).f0) == 8)) else (zAJ.j0 k l0 a1 l2 l3 a4 (((zAI l0 a1).f0) == 9))))))) else (none)) else (none)
end
theorem zAJ.mono_l:∀ k,(∀ y0 y1 y2 y3 y4,LeO (zAJ.f k y0 y1 y2 y3 y4) (zAJ.f (k + 1) y0 y1 y2 y3 y4))∧(∀ y0 y1 y2 y3 y4 y5,LeO (zAJ.j0 k y0 y1 y2 y3 y4 y5) (zAJ.j0 (k + 1) y0 y1 y2 y3 y4 y5))∧(∀ y0 y1 y2 y3,LeO (zAJ.l0 k y0 y1 y2 y3) (zAJ.l0 (k + 1) y0 y1 y2 y3))
 | 0=>⟨fun _ _ _ _ _ r h=>by simp [zAJ.f] at h,fun _ _ _ _ _ _ r h=>by simp [zAJ.j0] at h,fun _ _ _ _ r h=>by simp [zAJ.l0] at h⟩
 | k + 1=>by
  obtain ⟨ih0,ih1,ih2⟩:=zAJ.mono_l k
  refine ⟨?_,?_,?_⟩
  ·intro y0 y1 y2 y3 y4
   unfold zAJ.f
   exact qM @zAe.mono
  ·intro y0 y1 y2 y3 y4 y5
   unfold zAJ.j0
   exact qM @zAe.mono
  ·intro y0 y1 y2 y3
   unfold zAJ.l0
   exact qM @zAe.mono
theorem zAJ.mono:∀ a0 a1 a2 a3 a4 k,LeO (zAJ.f k a0 a1 a2 a3 a4) (zAJ.f (k + 1) a0 a1 a2 a3 a4):=by
 intro a0 a1 a2 a3 a4 k;obtain ⟨ih0,ih1,ih2⟩:=zAJ.mono_l k;exact ih0 a0 a1 a2 a3 a4
set_option maxHeartbeats 8000000 in
set_option maxRecDepth 100000 in
theorem zAJ.calls (k:Nat):∀ (A0:Option Addr) (c0:Nat) (l0:List (S96)) (a1:Int) (A2:Option Addr) (c2:Nat) (l2:List Bool) (A3:Option Addr) (c3:Nat) (l3:List Int) (a4:Int) (r:Bool) (w:World) (hr0:Kd.C k96 w A0 l0.length l0) (hc0:l0.length ≤ c0) (hr2:Kd.C Kd.bool w A2 l2.length l2) (hc2:l2.length ≤ c2) (hr3:Kd.C (Kd.int .i64) w A3 l3.length l3) (hc3:l3.length ≤ c3) (h:zAJ.f k l0 a1 l2 l3 a4 = some r),
  Calls Tryz.prog 99 #[.slice A0 l0.length c0,.int .i64 a1,.slice A2 l2.length c2,.slice A3 l3.length c3,.int .i64 a4] w fun e w'=>e = .returned (.bool r)∧Drawn0 w w':=by
 induction k using Nat.strongRecOn with
 | _ k ih =>
 intro A0 c0 l0 a1 A2 c2 l2 A3 c3 l3 a4 r w hr0 hc0 hr2 hc2 hr3 hc3 h;cases k with
 | zero=>exact absurd h (by simp [zAJ.f])
 | succ k =>
 simp only [zAJ.f] at h;have HR0:=zA hr0;have HC0:=zA hc0;clear hr0 hc0;have HR2:=zA hr2;have HC2:=zA hc2;clear hr2 hc2;have HR3:=zA hr3;have HC3:=zA hc3;clear hr3 hc3;have H:(if 0 ≤ a1 then (if a1 < (l0.length:Int) then (if ((zAI l0 a1).f0) = 13 then (if 0 ≤ ((zAI l0 a1).f1) then (if ((zAI l0 a1).f1) < (l2.length:Int) then (some (rdOf false l2 ((zAI l0 a1).f1))) else (none)) else (none)) else (if ((zAI l0 a1).f0) = 11 then (some true) else (if ((zAI l0 a1).f0) = 12 then (some false) else (if ((zAI l0 a1).f0) = 10 then ((zAJ.f k l0 (wrap64 (a1 + 1)) l2 l3 a4).bind fun t685=>(some (!t685))) else (if ((zAI l0 a1).f0) = 8 then (zAJ.j0 k l0 a1 l2 l3 a4 (((zAI l0 a1).f0) == 8)) else (zAJ.j0 k l0 a1 l2 l3 a4 (((zAI l0 a1).f0) == 9))))))) else (none)) else (none)) = some r:=h;clear h;rcases qj H with ⟨c6b0,H⟩|⟨c6,H⟩
 ·rcases qj H with ⟨c7b0,H⟩|⟨c7,H⟩
  ·rcases qE H with ⟨c8b0,c8b1,H⟩|⟨c8,c8b0,c8b1,H⟩
   ·rcases qj H with ⟨c9b0,H⟩|⟨c9,H⟩
    ·rcases qj H with ⟨c10b0,H⟩|⟨c10,H⟩
     ·obtain rfl:=Option.some.inj H;have p682:0 ≤ (a1:Int):=qd;have q682:a1 < (l0.length:Int):=qd;obtain ⟨ad682,e682,hx682_0,hx682_1⟩:=zA6 HR0.out a1 p682 q682;cases e682;replace p682:=qT p682;replace q682:=qT q682;have p683:0 ≤ (a1:Int):=qd;have q683:a1 < (l0.length:Int):=qd;obtain ⟨ad683,e683,hx683_0,hx683_1⟩:=zA6 HR0.out a1 p683 q683;obtain rfl:ad682 = ad683:=(by injection e683);replace p683:=qT p683;replace q683:=qT q683;have p684:0 ≤ (((zAI l0 a1).f1):Int):=qd;have q684:((zAI l0 a1).f1) < (l2.length:Int):=qd;obtain ⟨ad684,e684,hx684_0⟩:=Kd.at_bool HR2.out ((zAI l0 a1).f1) p684 q684;cases e684;replace p684:=qT p684;replace q684:=qT q684;go_enter Tryz.func99,Tryz.ntmps99;go_wp2;go_ret;exact ⟨qr,qt⟩
     ·nomatch H
    ·nomatch H
   ·rcases qE H with ⟨c11b0,c11b1,H⟩|⟨c11,c11b0,c11b1,H⟩
    ·obtain rfl:=Option.some.inj H;have p682:0 ≤ (a1:Int):=qd;have q682:a1 < (l0.length:Int):=qd;obtain ⟨ad682,e682,hx682_0,hx682_1⟩:=zA6 HR0.out a1 p682 q682;cases e682;replace p682:=qT p682;replace q682:=qT q682;go_enter Tryz.func99,Tryz.ntmps99;go_wp2;go_ret;exact ⟨qr,qt⟩
    ·rcases qE H with ⟨c12b0,c12b1,H⟩|⟨c12,c12b0,c12b1,H⟩
     ·obtain rfl:=Option.some.inj H;have p682:0 ≤ (a1:Int):=qd;have q682:a1 < (l0.length:Int):=qd;obtain ⟨ad682,e682,hx682_0,hx682_1⟩:=zA6 HR0.out a1 p682 q682;cases e682;replace p682:=qT p682;replace q682:=qT q682;go_enter Tryz.func99,Tryz.ntmps99;go_wp2;go_ret;exact ⟨qr,qt⟩
     ·rcases qE H with ⟨c13b0,c13b1,H⟩|⟨c13,c13b0,c13b1,H⟩
      ·replace H:=zb.mp H;obtain ⟨t685,A140,H⟩:=H;(try dsimp only at H);have A14:=zA A140;clear A140;obtain rfl:=Option.some.inj H;have p682:0 ≤ (a1:Int):=qd;have q682:a1 < (l0.length:Int):=qd;obtain ⟨ad682,e682,hx682_0,hx682_1⟩:=zA6 HR0.out a1 p682 q682;cases e682;replace p682:=qT p682;replace q682:=qT q682;go_enter Tryz.func99,Tryz.ntmps99;go_wp2_with (first|((with_reducible refine zU (f:=99) rfl ?_);refine gL (some 41) Tryz.func99 #[.slice (some ad682) l0.length c0,.int .i64 (wrap64 (a1 + 1)),.slice A2 l2.length c2,.slice A3 l3.length c3,.int .i64 a4] ?_;(with_reducible refine (ih k (by omega) _ _ l0 (wrap64 (a1 + 1)) _ _ l2 _ _ l3 a4 t685 _ (qu HR0.out) HC0.out (qu HR2.out) HC2.out (qu HR3.out) HC3.out A14.out).mono ?_);rintro e w' ⟨rfl,⟨nd,rfl⟩⟩;refine ⟨_,rfl,?_⟩));go_ret;exact ⟨qr,qt⟩
      ·have HC15:=zA H;clear H;have p682:0 ≤ (a1:Int):=qd;have q682:a1 < (l0.length:Int):=qd;obtain ⟨ad682,e682,hx682_0,hx682_1⟩:=zA6 HR0.out a1 p682 q682;cases e682;replace p682:=qT p682;replace q682:=qT q682;go_enter Tryz.func99,Tryz.ntmps99;go_upto_if 43 with (fail);go_cut [43] (fun v43 wc=>∃ (kq:Nat) (x43_14:Bool),v43 = .bool x43_14∧Aside0 (zAJ.j0 kq l0 a1 l2 l3 a4 x43_14 = some r)∧Aside0 (kq ≤ k)∧Drawn0 w wc)
       case first =>
        have H:=HC15.out;clear HC15;rcases qE H with ⟨c16b0,c16b1,H⟩|⟨c16,c16b0,c16b1,H⟩
        ·(first|rw [c16b0]|(simp only [i64_w,i32_w];rw [c16b0])|skip);have H':=zA H;clear H;go_wp2;go_meet
         case rel=>exact ⟨_,((((zAI l0 a1).f0) == 8)),qr,H',⟨qm⟩,qt⟩
        ·(first|rw [c16b0]|(simp only [i64_w,i32_w];rw [c16b0])|skip);have H':=zA H;clear H;go_wp2;go_meet
         case rel=>exact ⟨_,((((zAI l0 a1).f0) == 9)),qr,H',⟨qm⟩,qt⟩
       case rest =>
        clear HC15;obtain ⟨kq,x43_14,rfl,HA,HJ14,⟨mc14,rfl⟩⟩:=hcut;cases kq with
        | zero=>exact absurd HA.out (by simp [zAJ.j0])
        | succ kj14 =>
         have H:=HA.out;clear HA;simp only [zAJ.j0] at H;by_cases c17:x43_14 = true
         ·subst c17;rw [if_pos rfl] at H
          replace H:=zb.mp H;obtain ⟨t686,A180,H⟩:=H;(try dsimp only at H);have A18:=zA A180;clear A180;replace H:=zb.mp H;obtain ⟨t687,A190,H⟩:=H;(try dsimp only at H);have A19:=zA A190;clear A190;replace H:=zb.mp H;obtain ⟨t688,A200,H⟩:=H;(try dsimp only at H);have A20:=zA A200;clear A200;by_cases c21:t686 = true
          ·subst c21;rw [if_pos rfl] at H
           by_cases c22:t688 = true
           ·subst c22;rw [if_pos rfl] at H
            obtain rfl:=Option.some.inj H;go_wp2_with (first|((with_reducible refine zU (f:=99) rfl ?_);refine gL (some 52) Tryz.func99 #[.slice (some ad682) l0.length c0,.int .i64 (wrap64 (a1 + 1)),.slice A2 l2.length c2,.slice A3 l3.length c3,.int .i64 a4] ?_;(with_reducible refine (ih kj14 (qo HJ14) _ _ l0 (wrap64 (a1 + 1)) _ _ l2 _ _ l3 a4 true _ (qu HR0.out) HC0.out (qu HR2.out) HC2.out (qu HR3.out) HC3.out A18.out).mono ?_);rintro e w' ⟨rfl,⟨nd,rfl⟩⟩;refine ⟨_,rfl,?_⟩)|((with_reducible refine zU (f:=70) rfl ?_);refine gL (some 56) Tryz.func70 #[.slice (some ad682) l0.length c0,.int .i64 a1] ?_;(with_reducible refine (zAe.calls kj14 _ _ l0 a1 t687 _ (qu HR0.out) HC0.out A19.out).mono ?_);rintro e w' ⟨rfl,⟨nd,rfl⟩⟩;refine ⟨_,rfl,?_⟩)|((with_reducible refine zU (f:=99) rfl ?_);refine gL (some 60) Tryz.func99 #[.slice (some ad682) l0.length c0,.int .i64 t687,.slice A2 l2.length c2,.slice A3 l3.length c3,.int .i64 a4] ?_;(with_reducible refine (ih kj14 (qo HJ14) _ _ l0 t687 _ _ l2 _ _ l3 a4 true _ (qu HR0.out) HC0.out (qu HR2.out) HC2.out (qu HR3.out) HC3.out A20.out).mono ?_);rintro e w' ⟨rfl,⟨nd,rfl⟩⟩;refine ⟨_,rfl,?_⟩));go_ret;exact ⟨qr,qt⟩
           ·replace c22:=Bool.eq_false_iff.mpr c22;subst c22;rw [if_neg (show ¬ (false = true) by decide)] at H
            rcases qj H with ⟨c23b0,H⟩|⟨c23,H⟩
            ·rcases qj H with ⟨c24b0,H⟩|⟨c24,H⟩
             ·rcases qE H with ⟨c25b0,c25b1,H⟩|⟨c25,c25b0,c25b1,H⟩
              ·obtain rfl:=Option.some.inj H;go_wp2_with (first|((with_reducible refine zU (f:=99) rfl ?_);refine gL (some 52) Tryz.func99 #[.slice (some ad682) l0.length c0,.int .i64 (wrap64 (a1 + 1)),.slice A2 l2.length c2,.slice A3 l3.length c3,.int .i64 a4] ?_;(with_reducible refine (ih kj14 (qo HJ14) _ _ l0 (wrap64 (a1 + 1)) _ _ l2 _ _ l3 a4 true _ (qu HR0.out) HC0.out (qu HR2.out) HC2.out (qu HR3.out) HC3.out A18.out).mono ?_);rintro e w' ⟨rfl,⟨nd,rfl⟩⟩;refine ⟨_,rfl,?_⟩)|((with_reducible refine zU (f:=70) rfl ?_);refine gL (some 56) Tryz.func70 #[.slice (some ad682) l0.length c0,.int .i64 a1] ?_;(with_reducible refine (zAe.calls kj14 _ _ l0 a1 t687 _ (qu HR0.out) HC0.out A19.out).mono ?_);rintro e w' ⟨rfl,⟨nd,rfl⟩⟩;refine ⟨_,rfl,?_⟩)|((with_reducible refine zU (f:=99) rfl ?_);refine gL (some 60) Tryz.func99 #[.slice (some ad682) l0.length c0,.int .i64 t687,.slice A2 l2.length c2,.slice A3 l3.length c3,.int .i64 a4] ?_;(with_reducible refine (ih kj14 (qo HJ14) _ _ l0 t687 _ _ l2 _ _ l3 a4 false _ (qu HR0.out) HC0.out (qu HR2.out) HC2.out (qu HR3.out) HC3.out A20.out).mono ?_);rintro e w' ⟨rfl,⟨nd,rfl⟩⟩;refine ⟨_,rfl,?_⟩;have p689:0 ≤ (a1:Int):=qd;have q689:a1 < (l0.length:Int):=qd;obtain ⟨ad689,e689,hx689_0,hx689_1⟩:=zA6 HR0.out a1 p689 q689;obtain rfl:ad682 = ad689:=(by injection e689);replace p689:=qT p689;replace q689:=qT q689));go_ret;exact ⟨qr,qt⟩
              ·obtain rfl:=Option.some.inj H;go_wp2_with (first|((with_reducible refine zU (f:=99) rfl ?_);refine gL (some 52) Tryz.func99 #[.slice (some ad682) l0.length c0,.int .i64 (wrap64 (a1 + 1)),.slice A2 l2.length c2,.slice A3 l3.length c3,.int .i64 a4] ?_;(with_reducible refine (ih kj14 (qo HJ14) _ _ l0 (wrap64 (a1 + 1)) _ _ l2 _ _ l3 a4 true _ (qu HR0.out) HC0.out (qu HR2.out) HC2.out (qu HR3.out) HC3.out A18.out).mono ?_);rintro e w' ⟨rfl,⟨nd,rfl⟩⟩;refine ⟨_,rfl,?_⟩)|((with_reducible refine zU (f:=70) rfl ?_);refine gL (some 56) Tryz.func70 #[.slice (some ad682) l0.length c0,.int .i64 a1] ?_;(with_reducible refine (zAe.calls kj14 _ _ l0 a1 t687 _ (qu HR0.out) HC0.out A19.out).mono ?_);rintro e w' ⟨rfl,⟨nd,rfl⟩⟩;refine ⟨_,rfl,?_⟩)|((with_reducible refine zU (f:=99) rfl ?_);refine gL (some 60) Tryz.func99 #[.slice (some ad682) l0.length c0,.int .i64 t687,.slice A2 l2.length c2,.slice A3 l3.length c3,.int .i64 a4] ?_;(with_reducible refine (ih kj14 (qo HJ14) _ _ l0 t687 _ _ l2 _ _ l3 a4 false _ (qu HR0.out) HC0.out (qu HR2.out) HC2.out (qu HR3.out) HC3.out A20.out).mono ?_);rintro e w' ⟨rfl,⟨nd,rfl⟩⟩;refine ⟨_,rfl,?_⟩;have p689:0 ≤ (a1:Int):=qd;have q689:a1 < (l0.length:Int):=qd;obtain ⟨ad689,e689,hx689_0,hx689_1⟩:=zA6 HR0.out a1 p689 q689;obtain rfl:ad682 = ad689:=(by injection e689);replace p689:=qT p689;replace q689:=qT q689));go_ret;exact ⟨qr,qt⟩
             ·nomatch H
            ·nomatch H
          ·replace c21:=Bool.eq_false_iff.mpr c21;subst c21;rw [if_neg (show ¬ (false = true) by decide)] at H
           rcases qj H with ⟨c26b0,H⟩|⟨c26,H⟩
           ·rcases qj H with ⟨c27b0,H⟩|⟨c27,H⟩
            ·rcases qE H with ⟨c28b0,c28b1,H⟩|⟨c28,c28b0,c28b1,H⟩
             ·obtain rfl:=Option.some.inj H;go_wp2_with (first|((with_reducible refine zU (f:=99) rfl ?_);refine gL (some 52) Tryz.func99 #[.slice (some ad682) l0.length c0,.int .i64 (wrap64 (a1 + 1)),.slice A2 l2.length c2,.slice A3 l3.length c3,.int .i64 a4] ?_;(with_reducible refine (ih kj14 (qo HJ14) _ _ l0 (wrap64 (a1 + 1)) _ _ l2 _ _ l3 a4 false _ (qu HR0.out) HC0.out (qu HR2.out) HC2.out (qu HR3.out) HC3.out A18.out).mono ?_);rintro e w' ⟨rfl,⟨nd,rfl⟩⟩;refine ⟨_,rfl,?_⟩)|((with_reducible refine zU (f:=70) rfl ?_);refine gL (some 56) Tryz.func70 #[.slice (some ad682) l0.length c0,.int .i64 a1] ?_;(with_reducible refine (zAe.calls kj14 _ _ l0 a1 t687 _ (qu HR0.out) HC0.out A19.out).mono ?_);rintro e w' ⟨rfl,⟨nd,rfl⟩⟩;refine ⟨_,rfl,?_⟩)|((with_reducible refine zU (f:=99) rfl ?_);refine gL (some 60) Tryz.func99 #[.slice (some ad682) l0.length c0,.int .i64 t687,.slice A2 l2.length c2,.slice A3 l3.length c3,.int .i64 a4] ?_;(with_reducible refine (ih kj14 (qo HJ14) _ _ l0 t687 _ _ l2 _ _ l3 a4 t688 _ (qu HR0.out) HC0.out (qu HR2.out) HC2.out (qu HR3.out) HC3.out A20.out).mono ?_);rintro e w' ⟨rfl,⟨nd,rfl⟩⟩;refine ⟨_,rfl,?_⟩;have p690:0 ≤ (a1:Int):=qd;have q690:a1 < (l0.length:Int):=qd;obtain ⟨ad690,e690,hx690_0,hx690_1⟩:=zA6 HR0.out a1 p690 q690;obtain rfl:ad682 = ad690:=(by injection e690);replace p690:=qT p690;replace q690:=qT q690));go_ret;exact ⟨qr,qt⟩
             ·obtain rfl:=Option.some.inj H;go_wp2_with (first|((with_reducible refine zU (f:=99) rfl ?_);refine gL (some 52) Tryz.func99 #[.slice (some ad682) l0.length c0,.int .i64 (wrap64 (a1 + 1)),.slice A2 l2.length c2,.slice A3 l3.length c3,.int .i64 a4] ?_;(with_reducible refine (ih kj14 (qo HJ14) _ _ l0 (wrap64 (a1 + 1)) _ _ l2 _ _ l3 a4 false _ (qu HR0.out) HC0.out (qu HR2.out) HC2.out (qu HR3.out) HC3.out A18.out).mono ?_);rintro e w' ⟨rfl,⟨nd,rfl⟩⟩;refine ⟨_,rfl,?_⟩)|((with_reducible refine zU (f:=70) rfl ?_);refine gL (some 56) Tryz.func70 #[.slice (some ad682) l0.length c0,.int .i64 a1] ?_;(with_reducible refine (zAe.calls kj14 _ _ l0 a1 t687 _ (qu HR0.out) HC0.out A19.out).mono ?_);rintro e w' ⟨rfl,⟨nd,rfl⟩⟩;refine ⟨_,rfl,?_⟩)|((with_reducible refine zU (f:=99) rfl ?_);refine gL (some 60) Tryz.func99 #[.slice (some ad682) l0.length c0,.int .i64 t687,.slice A2 l2.length c2,.slice A3 l3.length c3,.int .i64 a4] ?_;(with_reducible refine (ih kj14 (qo HJ14) _ _ l0 t687 _ _ l2 _ _ l3 a4 t688 _ (qu HR0.out) HC0.out (qu HR2.out) HC2.out (qu HR3.out) HC3.out A20.out).mono ?_);rintro e w' ⟨rfl,⟨nd,rfl⟩⟩;refine ⟨_,rfl,?_⟩;have p690:0 ≤ (a1:Int):=qd;have q690:a1 < (l0.length:Int):=qd;obtain ⟨ad690,e690,hx690_0,hx690_1⟩:=zA6 HR0.out a1 p690 q690;obtain rfl:ad682 = ad690:=(by injection e690);replace p690:=qT p690;replace q690:=qT q690));go_ret;exact ⟨qr,qt⟩
            ·nomatch H
           ·nomatch H
         ·replace c17:=Bool.eq_false_iff.mpr c17;subst c17;rw [if_neg (show ¬ (false = true) by decide)] at H
          have H':=zA H;clear H;go_wp2;go_loopg [4,13] kj14 (fun kq v4 v13 w'=>∃ (x4_2:Int) (x13_2:Int),v4 = .int .i64 x4_2∧v13 = .int .i64 x13_2∧Aside0 (zAJ.l0 kq a1 l3 x4_2 x13_2 = some r)∧Aside0 (kq ≤ kj14)∧Drawn0 w w')
          case atStart=>exact ⟨(a4),(0),qr,qr,H',⟨Nat.le_refl _⟩,qt⟩
          case round =>
           clear H';obtain ⟨x4_2,x13_2,rfl,rfl,HA,HK2,⟨m2,rfl⟩⟩:=hrel;cases gk with
           | zero=>exact absurd HA.out (by simp [zAJ.l0])
           | succ k2 =>
            have H:=HA.out;clear HA;simp only [zAJ.l0] at H;rcases qj H with ⟨c29b0,H⟩|⟨c29b0,H⟩
            ·rcases qj H with ⟨c30b0,H⟩|⟨c30,H⟩
             ·rcases qE H with ⟨c31b0,c31b1,H⟩|⟨c31,c31b0,c31b1,H⟩
              ·obtain rfl:=Option.some.inj H;have p691:0 ≤ (x13_2:Int):=qd;have q691:x13_2 < (l3.length:Int):=qd;obtain ⟨ad691,e691,hx691_0⟩:=Kd.at_int HR3.out x13_2 p691 q691;cases e691;replace p691:=qT p691;replace q691:=qT q691;go_wp2;go_ret;exact ⟨qr,qt⟩
              ·have H':=zA H;clear H;have p691:0 ≤ (x13_2:Int):=qd;have q691:x13_2 < (l3.length:Int):=qd;obtain ⟨ad691,e691,hx691_0⟩:=Kd.at_int HR3.out x13_2 p691 q691;cases e691;replace p691:=qT p691;replace q691:=qT q691;go_wp2;go_roundg k2
               case measure=>have:=HJ14.out;have:=HK2.out;omega
               case rel=>exact ⟨(wrap64 (Int.tdiv x4_2 2)),(wrap64 (x13_2 + 1)),qr,qr,H',⟨qp HJ14 HK2⟩,qt⟩
             ·nomatch H
            ·obtain rfl:=Option.some.inj H;go_wp2;go_ret;exact ⟨qr,qt⟩
  ·nomatch H
 ·nomatch H
mutual
def zAN.l0:Nat → List (S96) → List Bool → Int → List Int → Int → Int → Option (List Bool × Int)
 | 0,_,_,_,_,_,_=>none
 | k + 1,x0,x1,x2,x8,x10,x11=>if x11 < (x8.length:Int) then (zAN.l0 k x0 x1 x2 x8 (wrap64 (x10 * 2)) (wrap64 (x11 + 1))) else ((zAE.f x2 0 (wrap64 (x10 - 1))).bind fun t696=>(if t696 = true then (zAN.l1 k x0 x1 x2 x8 ([]:List Bool) 0) else (some (([]:List Bool),2))))
def zAN.l1:Nat → List (S96) → List Bool → Int → List Int → List Bool → Int → Option (List Bool × Int)
 | 0,_,_,_,_,_,_=>none
 | k + 1,x0,x1,x2,x8,x12,x13=>if x13 < (x0.length:Int) then ((zAJ.f k x0 x13 x1 x8 x2).bind fun t697=>(if x12.length < 140737488355328 then (zAN.l1 k x0 x1 x2 x8 (x12 ++ [t697]) (wrap64 (x13 + 1))) else (none))) else (some (x12,0))
end
def zAN.f (k:Nat) (l0:List (S96)) (l1:List Bool) (a2:Int):Option (List Bool × Int):=(zAf.f k l0 (l1.length:Int)).bind fun bt692=>(if bt692.2 = 0 then (zAN.l0 k l0 l1 a2 bt692.1 1 0) else (some (([]:List Bool),bt692.2)))
theorem zAN.mono_l:∀ k,(∀ y0 y1 y2 y3 y4 y5,LeO (zAN.l0 k y0 y1 y2 y3 y4 y5) (zAN.l0 (k + 1) y0 y1 y2 y3 y4 y5))∧(∀ y0 y1 y2 y3 y4 y5,LeO (zAN.l1 k y0 y1 y2 y3 y4 y5) (zAN.l1 (k + 1) y0 y1 y2 y3 y4 y5))
 | 0=>⟨fun _ _ _ _ _ _ r h=>by simp [zAN.l0] at h,fun _ _ _ _ _ _ r h=>by simp [zAN.l1] at h⟩
 | k + 1=>by
  obtain ⟨ih0,ih1⟩:=zAN.mono_l k
  refine ⟨?_,?_⟩
  ·intro y0 y1 y2 y3 y4 y5
   unfold zAN.l0
   exact qM (And.intro @zAf.mono @zAJ.mono)
  ·intro y0 y1 y2 y3 y4 y5
   unfold zAN.l1
   exact qM (And.intro @zAf.mono @zAJ.mono)
theorem zAN.mono:∀ a0 a1 a2 k,LeO (zAN.f k a0 a1 a2) (zAN.f (k + 1) a0 a1 a2):=by
 intro a0 a1 a2 k;obtain ⟨ih0,ih1⟩:=zAN.mono_l k;unfold zAN.f;exact qM (And.intro @zAf.mono @zAJ.mono)
set_option maxHeartbeats 8000000 in
set_option maxRecDepth 100000 in
theorem zAN.calls (k:Nat) (A0:Option Addr) (c0:Nat) (l0:List (S96)) (A1:Option Addr) (c1:Nat) (l1:List Bool) (a2:Int) (r1:List Bool) (r2:Int) (w:World) (hr0:Kd.C k96 w A0 l0.length l0) (hc0:l0.length ≤ c0) (hr1:Kd.C Kd.bool w A1 l1.length l1) (hc1:l1.length ≤ c1) (h:zAN.f k l0 l1 a2 = some (r1,r2)) :
  Calls Tryz.prog 68 #[.slice A0 l0.length c0,.slice A1 l1.length c1,.int .i64 a2] w fun e w'=>∃ v0_:Value,e = .returned (.tuple #[v0_,.int .i64 r2])∧Kd.R Kd.bool 4 w' w.heap.size (fun _=>True) v0_ r1∧Below w.heap.size w w':=by
 have HR0:=zA hr0;have HC0:=zA hc0;clear hr0 hc0;have HR1:=zA hr1;have HC1:=zA hc1;clear hr1 hc1;have HB:=zA (Below.refl w.heap.size w);have H:((zAf.f k l0 (l1.length:Int)).bind fun bt692=>(if bt692.2 = 0 then (zAN.l0 k l0 l1 a2 bt692.1 1 0) else (some (([]:List Bool),bt692.2)))) = some (r1,r2):=h;clear h;replace H:=zb.mp H;obtain ⟨⟨t692,t693⟩,A40,H⟩:=H;(try dsimp only at H);have A4:=zA A40;clear A40;rcases qE H with ⟨c5b0,c5b1,H⟩|⟨c5,c5b0,c5b1,H⟩
 ·have H':=zA H;clear H;go_enter Tryz.func68,Tryz.ntmps68;go_wp2_with (first|((with_reducible refine zU (f:=43) rfl ?_);refine gL (some 19) Tryz.func43 #[.slice A0 l0.length c0,.int .i64 (l1.length:Int)] ?_;(with_reducible refine (zAf.calls k _ _ l0 (l1.length:Int) t692 t693 _ (qu HR0.out) HC0.out A4.out).mono ?_);rintro e w6 ⟨v694,rfl,ho0,hb⟩;refine ⟨_,rfl,?_⟩;have HO695:=zA (Kd.R_lower ho0 qs);replace HB:=zA (zH qb hb);clear ho0 hb));go_loopg [10,11] k (fun kq v10 v11 w'=>∃ (x10_1:Int) (x11_1:Int),v10 = .int .i64 x10_1∧v11 = .int .i64 x11_1∧Aside0 (zAN.l0 kq l0 l1 a2 t692 x10_1 x11_1 = some (r1,r2))∧Aside0 (kq ≤ k)∧Aside0 (Kd.R (Kd.int .i64) 3 w' w.heap.size (fun _=>True) v694 t692)∧Aside0 (Below w.heap.size w w'))
  case atStart=>exact ⟨(1),(0),qr,qr,H',⟨Nat.le_refl _⟩,⟨qR HO695⟩,⟨qb⟩⟩
  case round =>
   clear H';obtain ⟨x10_1,x11_1,rfl,rfl,HA,HK1,HO_8,HB⟩:=hrel;cases gk with
   | zero=>exact absurd HA.out (by simp [zAN.l0])
   | succ k1 =>
    have H:=HA.out;clear HA;simp only [zAN.l0] at H;rcases qj H with ⟨c7b0,H⟩|⟨c7b0,H⟩
    ·have H':=zA H;clear H;obtain ⟨Ao8,co8,eo8⟩:=Kd.R_slice HO_8.out;subst eo8;go_wp2;go_roundg k1
     case measure=>have:=HK1.out;omega
     case rel=>exact ⟨(wrap64 (x10_1 * 2)),(wrap64 (x11_1 + 1)),qr,qr,H',⟨qo HK1⟩,⟨qR HO_8⟩,⟨qb⟩⟩
    ·replace H:=zb.mp H;obtain ⟨t696,A90,H⟩:=H;(try dsimp only at H);have A9:=zA A90;clear A90;by_cases c10:t696 = true
     ·subst c10;rw [if_pos rfl] at H
      have H':=zA H;clear H;obtain ⟨Ao11,co11,eo11⟩:=Kd.R_slice HO_8.out;subst eo11;go_wp2_with (first|((with_reducible refine zU (f:=29) rfl ?_);refine gL (some 36) Tryz.func29 #[.int .i64 a2,.int .i64 0,.int .i64 (wrap64 (x10_1 - 1))] ?_;(with_reducible refine (zAE.calls a2 0 (wrap64 (x10_1 - 1)) true _ A9.out).mono ?_);rintro e w' ⟨rfl,⟨nd,rfl⟩⟩;refine ⟨_,rfl,?_⟩));go_loopg [12,13] k1 (fun kq v12 v13 w'=>∃ (x12_2:List Bool) (x13_2:Int),v13 = .int .i64 x13_2∧Aside0 (zAN.l1 kq l0 l1 a2 t692 x12_2 x13_2 = some (r1,r2))∧Aside0 (kq ≤ k1)∧Aside0 (Kd.R (Kd.int .i64) 3 w' w.heap.size (fun _=>True) (.slice Ao11 t692.length co11) t692)∧Aside0 (Kd.R Kd.bool 4 w' w.heap.size (fun _=>True) v12 x12_2)∧Aside0 (Below w.heap.size w w'))
      case atStart=>exact ⟨(([]:List Bool)),(0),qr,H',⟨Nat.le_refl _⟩,⟨qR HO_8⟩,⟨ql⟩,⟨qb⟩⟩
      case round =>
       clear H';obtain ⟨x12_2,x13_2,rfl,HA,HK2,HO_8,HO_12,HB⟩:=hrel;cases gk with
       | zero=>exact absurd HA.out (by simp [zAN.l1])
       | succ k2 =>
        have H:=HA.out;clear HA;simp only [zAN.l1] at H;rcases qj H with ⟨c12b0,H⟩|⟨c12b0,H⟩
        ·replace H:=zb.mp H;obtain ⟨t697,A130,H⟩:=H;(try dsimp only at H);have A13:=zA A130;clear A130;by_cases c14:x12_2.length < 140737488355328
         ·rw [if_pos c14] at H;have LMc14:=zA c14;clear c14;generalize hy698:(x12_2 ++ [t697]) = y698 at H;replace hy698:=hy698.symm
          have Ny698:=zA hy698;clear hy698;have H':=zA H;clear H;go_wp2_with (first|((with_reducible refine zU (f:=99) rfl ?_);refine gL (some 49) Tryz.func99 #[.slice A0 l0.length c0,.int .i64 x13_2,.slice A1 l1.length c1,.slice Ao11 t692.length co11,.int .i64 a2] ?_;(with_reducible refine (zAJ.calls k2 _ _ l0 x13_2 _ _ l1 _ _ t692 a2 t697 _ (qc HR0) HC0.out (qc HR1) HC1.out (qu (Kd.R_reads' HO_8.out).2.2) ((Kd.R_reads' HO_8.out).2.1) A13.out).mono ?_);rintro e w' ⟨rfl,⟨nd,rfl⟩⟩;refine ⟨_,rfl,?_⟩)|((with_reducible refine gate_builtin (b:=.append) (xs:=#[.tmp 50,.tmp 52]) rfl ?_);at_builtin;refine Kd.R_append Kd.bool (w0:=w) w.heap.size rfl (.tmp 50) (.tmp 52) 55 4 (.bool false) 1 rfl Tryz.underlying55 info4 rfl (by decide) (by omega) u12 x12_2 t697 [.bool t697] (fun _=>True) (fun _=>False) rfl rfl rfl (fun _ hk=>hk.elim) (fun _ _=>trivial) (qR HO_12) qb qs (qo LMc14) ?_;intro v699 w15 ho hb hg hat;rw [← Ny698.out] at ho;replace HO_8:=zA (Kd.R_over' (qR HO_8) (Kd.R_typed (qR HO_12)) (by decide) hg);replace HB:=zA (hb);have HO700:=zA (ho);clear HO_12;clear ho hb hg hat));go_roundg k2
          case measure=>have:=HK1.out;have:=HK2.out;omega
          case rel=>exact ⟨(y698),(wrap64 (x13_2 + 1)),qr,H',⟨qp HK1 HK2⟩,⟨qR HO_8⟩,⟨qR HO700⟩,⟨qb⟩⟩
         ·rw [if_neg c14] at H;nomatch H
        ·obtain ⟨rfl,rfl⟩:=qP H;go_wp2;go_ret2;exact ⟨_,qe,qR HO_12,qb⟩
     ·replace c10:=Bool.eq_false_iff.mpr c10;subst c10;rw [if_neg (show ¬ (false = true) by decide)] at H
      obtain ⟨rfl,rfl⟩:=qP H;obtain ⟨Ao16,co16,eo16⟩:=Kd.R_slice HO_8.out;subst eo16;go_wp2_with (first|((with_reducible refine zU (f:=29) rfl ?_);refine gL (some 36) Tryz.func29 #[.int .i64 a2,.int .i64 0,.int .i64 (wrap64 (x10_1 - 1))] ?_;(with_reducible refine (zAE.calls a2 0 (wrap64 (x10_1 - 1)) false _ A9.out).mono ?_);rintro e w' ⟨rfl,⟨nd,rfl⟩⟩;refine ⟨_,rfl,?_⟩));go_ret2;exact ⟨_,qe,ql,qb⟩
 ·obtain ⟨rfl,rfl⟩:=qP H;go_enter Tryz.func68,Tryz.ntmps68;go_wp2_with (first|((with_reducible refine zU (f:=43) rfl ?_);refine gL (some 19) Tryz.func43 #[.slice A0 l0.length c0,.int .i64 (l1.length:Int)] ?_;(with_reducible refine (zAf.calls k _ _ l0 (l1.length:Int) t692 t693 _ (qu HR0.out) HC0.out A4.out).mono ?_);rintro e w17 ⟨v694,rfl,ho0,hb⟩;refine ⟨_,rfl,?_⟩;have HO695:=zA (Kd.R_lower ho0 qs);replace HB:=zA (zH qb hb);clear ho0 hb));go_ret2;exact ⟨_,qe,ql,qb⟩
end Go.Proofs.YtgdijfhdpgdanaaGreatDoor.B
