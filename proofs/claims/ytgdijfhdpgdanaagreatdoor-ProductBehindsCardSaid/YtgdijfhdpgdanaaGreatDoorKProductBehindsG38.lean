import Derived.Test.YtgdijfhdpgdanaaGreatDoorKProductBehindsG37
namespace Go.Proofs.YtgdijfhdpgdanaaGreatDoor.B
open Go.Proofs.YtgdijfhdpgdanaaGreatDoor.Al
open Option renaming bind_eq_some_iff → zb
open Go.Proofs.YtgdijfhdpgdanaaGreatDoorW.PrintWords renaming below_set → zF, below_step → zH, Kd.C_below → zT, gate_callee → zU, blk_frozen → zJ, gate_dst → zV
open Go.Proofs.YtgdijfhdpgdanaaGreatDoor.Sq Go.RowKit Go.Proofs.YtgdijfhdpgdanaaGreatDoorW.PrintWords Go.Proofs.YtgdijfhdpgdanaaGreatDoorW.PrintLast Go.Proofs.YtgdijfhdpgdanaaGreatDoorW.PrintMore
attribute [local go_sem] max2_int min2_int max_two min_two max_three min_three max_four min_four
set_option linter.unusedVariables false
set_option linter.unusedSimpArgs false
mutual
def zAD.l0:Nat → List (S96) → List Int → List (List (S96)) → List Int → Int → Option (Int × Int)
 | 0,_,_,_,_,_=>none
 | k + 1,x0,x1,x6,x8,x9=>if x9 < (x6.length:Int) then (if x8.length < 17592186044416 then (zAD.l0 k x0 x1 x6 (x8 ++ [0]) (wrap64 (x9 + 1))) else (none)) else (zAD.l1 k x0 x1 x6 x8 (wrap64 ((x6.length:Int) - 1)))
def zAD.l1:Nat → List (S96) → List Int → List (List (S96)) → List Int → Int → Option (Int × Int)
 | 0,_,_,_,_,_=>none
 | k + 1,x0,x1,x6,x8,x10=>if x10 ≥ 0 then (if 0 ≤ x10 then (if x10 < (x6.length:Int) then ((zAD.f k (zBB x6 x10) x1).bind fun bt589=>(if bt589.2 = 0 then (if x10 < (x8.length:Int) then (zAD.l1 k x0 x1 x6 (x8.set (x10:Int).toNat bt589.1) (wrap64 (x10 - 1))) else (none)) else (some (0,bt589.2)))) else (none)) else (none)) else (if 0 < (x0.length:Int) then (if ((zAI x0 0).f0) = 1 then (zAD.j2 k ((zAI x0 0).f1) false) else (if ((zAI x0 0).f0) = 2 then (if 0 ≤ ((zAI x0 0).f1) then (if ((zAI x0 0).f1) < (x1.length:Int) then (zAD.j2 k (rd x1 ((zAI x0 0).f1)) false) else (none)) else (none)) else (if ((zAI x0 0).f0) = 3 then (if 0 < (x8.length:Int) then (if 1 < (x8.length:Int) then (zAD.j2 k (wrap64 ((rd x8 0) + (rd x8 1))) false) else (none)) else (none)) else (if ((zAI x0 0).f0) = 4 then (if 0 < (x8.length:Int) then (if 1 < (x8.length:Int) then (zAD.j2 k (wrap64 ((rd x8 0) - (rd x8 1))) false) else (none)) else (none)) else (if ((zAI x0 0).f0) = 5 then (if 0 < (x8.length:Int) then (if 1 < (x8.length:Int) then (zAD.j2 k (wrap64 ((rd x8 0) * (rd x8 1))) false) else (none)) else (none)) else (if ((zAI x0 0).f0) = 6 then (if 0 < (x8.length:Int) then (if 1 < (x8.length:Int) then (zAD.j2 k 0 ((rd x8 0) == (rd x8 1))) else (none)) else (none)) else (if ((zAI x0 0).f0) = 7 then (if 0 < (x8.length:Int) then (if 1 < (x8.length:Int) then (zAD.j2 k 0 (decide ((rd x8 0) < (rd x8 1)))) else (none)) else (none)) else (if ((zAI x0 0).f0) = 8 then (if 0 < (x8.length:Int) then (if (rd x8 0) = 1 then (if 1 < (x8.length:Int) then (zAD.j2 k 0 ((rd x8 1) == 1)) else (none)) else (zAD.j2 k 0 false)) else (none)) else (if ((zAI x0 0).f0) = 9 then (if 0 < (x8.length:Int) then (if (rd x8 0) = 1 then (zAD.j2 k 0 true) else (if 1 < (x8.length:Int) then (zAD.j2 k 0 ((rd x8 1) == 1)) else (none))) else (none)) else (if ((zAI x0 0).f0) = 10 then (if 0 < (x8.length:Int) then (zAD.j2 k 0 ((rd x8 0) == 0)) else (none)) else (if ((zAI x0 0).f0) = 11 then (zAD.j2 k 0 true) else (zAD.j2 k 0 false)))))))))))) else (none))
def zAD.j2:Nat → Int → Bool → Option (Int × Int)
 | 0,_,_=>none
 | k + 1,x13,x14=>if x14 = true then ((zAE.f 1 (-1000000) 1000000).bind fun t611=>(if t611 = true then (some (1,0)) else (some (0,8)))) else ((zAE.f x13 (-1000000) 1000000).bind fun t612=>(if t612 = true then (some (x13,0)) else (some (0,8))))
def zAD.f:Nat → List (S96) → List Int → Option (Int × Int)
 | 0,_,_=>none
 | k + 1,l0,l1=>(zAg.f k l0).bind fun bt581=>(zAD.l0 k l0 l1 bt581.1 ([]:List Int) 0)
end
theorem zAD.mono_l:∀ k,(∀ y0 y1,LeO (zAD.f k y0 y1) (zAD.f (k + 1) y0 y1))∧(∀ y0 y1 y2 y3 y4,LeO (zAD.l0 k y0 y1 y2 y3 y4) (zAD.l0 (k + 1) y0 y1 y2 y3 y4))∧(∀ y0 y1 y2 y3 y4,LeO (zAD.l1 k y0 y1 y2 y3 y4) (zAD.l1 (k + 1) y0 y1 y2 y3 y4))∧(∀ y0 y1,LeO (zAD.j2 k y0 y1) (zAD.j2 (k + 1) y0 y1))
 | 0=>⟨fun _ _ r h=>by simp [zAD.f] at h,fun _ _ _ _ _ r h=>by simp [zAD.l0] at h,fun _ _ _ _ _ r h=>by simp [zAD.l1] at h,fun _ _ r h=>by simp [zAD.j2] at h⟩
 | k + 1=>by
  obtain ⟨ih0,ih1,ih2,ih3⟩:=zAD.mono_l k
  refine ⟨?_,?_,?_,?_⟩
  ·intro y0 y1
   unfold zAD.f
   exact qM @zAg.mono
  ·intro y0 y1 y2 y3 y4
   unfold zAD.l0
   exact qM @zAg.mono
  ·intro y0 y1 y2 y3 y4
   unfold zAD.l1
   exact qM @zAg.mono
  ·intro y0 y1
   unfold zAD.j2
   exact qM @zAg.mono
theorem zAD.mono:∀ a0 a1 k,LeO (zAD.f k a0 a1) (zAD.f (k + 1) a0 a1):=by
 intro a0 a1 k;obtain ⟨ih0,ih1,ih2,ih3⟩:=zAD.mono_l k;exact ih0 a0 a1
set_option maxHeartbeats 8000000 in
set_option maxRecDepth 100000 in
theorem zAD.calls (k:Nat):∀ (A0:Option Addr) (c0:Nat) (l0:List (S96)) (A1:Option Addr) (c1:Nat) (l1:List Int) (r1:Int) (r2:Int) (w:World) (hr0:Kd.C k96 w A0 l0.length l0) (hc0:l0.length ≤ c0) (hr1:Kd.C (Kd.int .i64) w A1 l1.length l1) (hc1:l1.length ≤ c1) (h:zAD.f k l0 l1 = some (r1,r2)),
  Calls Tryz.prog 97 #[.slice A0 l0.length c0,.slice A1 l1.length c1] w fun e w'=>e = .returned (.tuple #[.int .i64 r1,.int .i64 r2])∧Below w.heap.size w w':=by
 induction k using Nat.strongRecOn with
 | _ k ih =>
 intro A0 c0 l0 A1 c1 l1 r1 r2 w hr0 hc0 hr1 hc1 h;cases k with
 | zero=>exact absurd h (by simp [zAD.f])
 | succ k =>
 simp only [zAD.f] at h;have HR0:=zA hr0;have HC0:=zA hc0;clear hr0 hc0;have HR1:=zA hr1;have HC1:=zA hc1;clear hr1 hc1;have HB:=zA (Below.refl w.heap.size w);have H:((zAg.f k l0).bind fun bt581=>(zAD.l0 k l0 l1 bt581.1 ([]:List Int) 0)) = some (r1,r2):=h;clear h;replace H:=zb.mp H;obtain ⟨⟨t581,t582⟩,A30,H⟩:=H;(try dsimp only at H);have A3:=zA A30;clear A30;have H':=zA H;clear H;go_enter Tryz.func97,Tryz.ntmps97;go_wp2_with (first|(go_at_call 125;(with_reducible refine (zAg.calls k _ _ l0 t581 t582 _ (qu HR0.out) HC0.out A3.out).mono ?_);rintro e w4 ⟨v583,rfl,ho0,hb⟩;have HO584:=zA (Kd.S_lower ho0 qs);replace HB:=zA (zH qb hb);clear ho0 hb));go_loopg [8,9] k (fun kq v8 v9 w'=>∃ (x8_1:List Int) (x9_1:Int),v9 = .int .i64 x9_1∧Aside0 (zAD.l0 kq l0 l1 t581 x8_1 x9_1 = some (r1,r2))∧Aside0 (kq ≤ k)∧Aside0 (Kd.S (Kd.slice 96 k96) 27 w' w.heap.size (fun _=>True) v583 t581)∧Aside0 (Kd.R (Kd.int .i64) 3 w' w.heap.size (fun _=>True) v8 x8_1)∧Aside0 (Below w.heap.size w w'))
 case atStart=>exact ⟨(([]:List Int)),(0),qr,H',⟨Nat.le_refl _⟩,⟨qS HO584⟩,⟨ql⟩,⟨qb⟩⟩
 case round =>
  clear H';obtain ⟨x8_1,x9_1,rfl,HA,HK1,HO_6,HO_8,HB⟩:=hrel;cases gk with
  | zero=>exact absurd HA.out (by simp [zAD.l0])
  | succ k1 =>
   have H:=HA.out;clear HA;simp only [zAD.l0] at H;rcases qj H with ⟨c5b0,H⟩|⟨c5b0,H⟩
   ·by_cases c6:x8_1.length < 17592186044416
    ·rw [if_pos c6] at H;have LMc6:=zA c6;clear c6;generalize hy585:(x8_1 ++ [0]) = y585 at H;replace hy585:=hy585.symm
     have Ny585:=zA hy585;clear hy585;have H':=zA H;clear H;obtain ⟨Ao7,co7,eo7⟩:=Kd.S_slice HO_6.out;subst eo7;go_wp2_with (first|((with_reducible refine gate_builtin (b:=.append) (xs:=#[.tmp 26,.tmp 27]) rfl ?_);at_builtin;refine Kd.R_append (Kd.int .i64) (w0:=w) w.heap.size rfl (.tmp 26) (.tmp 27) 39 3 (.int .i64 0) 8 rfl Tryz.underlying39 info3 rfl (by decide) (by omega) u8 x8_1 0 [.int .i64 0] (fun _=>True) (fun _=>False) rfl rfl rfl (fun _ hk=>hk.elim) (fun _ _=>trivial) (qR HO_8) qb qs (qo LMc6) ?_;intro v586 w8 ho hb hg hat;rw [← Ny585.out] at ho;replace HO_6:=zA (Kd.S_over' (qS HO_6) (Kd.R_typed (qR HO_8)) (by decide) hg);replace HB:=zA (hb);have HO587:=zA (ho);clear HO_8;clear ho hb hg hat));go_roundg k1
     case measure=>have:=HK1.out;omega
     case rel=>exact ⟨(y585),(wrap64 (x9_1 + 1)),qr,H',⟨qo HK1⟩,⟨qS HO_6⟩,⟨qR HO587⟩,⟨qb⟩⟩
    ·rw [if_neg c6] at H;nomatch H
   ·have H':=zA H;clear H;obtain ⟨Ao9,co9,eo9⟩:=Kd.S_slice HO_6.out;subst eo9;go_wp2;go_loopg [10] k1 (fun kq v10 w'=>∃ (x8_2:List Int) (x10_2:Int),v10 = .int .i64 x10_2∧Aside0 (zAD.l1 kq l0 l1 t581 x8_2 x10_2 = some (r1,r2))∧Aside0 (kq ≤ k1)∧Aside0 (Kd.S (Kd.slice 96 k96) 27 w' w.heap.size (fun _=>True) (.slice Ao9 t581.length co9) t581)∧Aside0 (Kd.R (Kd.int .i64) 3 w' w.heap.size (fun _=>True) u8 x8_2)∧Aside0 (Below w.heap.size w w'))
    case atStart=>exact ⟨(x8_1),(wrap64 ((t581.length:Int) - 1)),qr,H',⟨Nat.le_refl _⟩,⟨qS HO_6⟩,⟨qR HO_8⟩,⟨qb⟩⟩
    case round =>
     clear H';obtain ⟨x8_2,x10_2,rfl,HA,HK2,HO_6,HO_8,HB⟩:=hrel;cases gk with
     | zero=>exact absurd HA.out (by simp [zAD.l1])
     | succ k2 =>
      have H:=HA.out;clear HA;simp only [zAD.l1] at H;by_cases c10:x10_2 ≥ 0
      ·rw [if_pos c10] at H;have c10b0:decide (0 ≤ x10_2) = true:=zQ c10;clear c10;rcases qj H with ⟨c11b0,H⟩|⟨c11,H⟩
       ·rcases qj H with ⟨c12b0,H⟩|⟨c12,H⟩
        ·replace H:=zb.mp H;obtain ⟨⟨t589,t590⟩,A130,H⟩:=H;(try dsimp only at H);have A13:=zA A130;clear A130;rcases qE H with ⟨c14b0,c14b1,H⟩|⟨c14,c14b0,c14b1,H⟩
         ·rcases qj H with ⟨c15b0,H⟩|⟨c15,H⟩
          ·generalize hy591:(x8_2.set (x10_2:Int).toNat t589) = y591 at H;replace hy591:=hy591.symm
           have Ny591:=zA hy591;clear hy591;have H':=zA H;clear H;have p588:0 ≤ (x10_2:Int):=qd;have q588:x10_2 < (t581.length:Int):=qd;obtain ⟨ad588,A588_0,c588_0,e588,hx588_0,hl588_0,hi588_0⟩:=zBW (Kd.S_reads' HO_6.out).2.2 x10_2 p588 q588;cases e588;obtain ⟨ce588,hce588,hMe588,hcc588⟩:=Kd.S_get HO_6.out [] x10_2 p588 (by first|exact q588|exact qd|(have e_:=(Kd.S_reads' HO_6.out).1;omega));obtain ⟨ve588_0,rfl,ge588_0⟩:=hMe588;have hv588_0:=hcc588 0 _ rfl;rw [Nat.add_zero,show ((Kd.slice 96 k96)).sz = 1 from rfl,Nat.mul_one] at hv588_0;replace hv588_0:=Option.some.inj (hv588_0.symm.trans hx588_0);rw [hv588_0] at ge588_0;have HL588_0:=zA (show Kd.R k96 96 _ _ _ _ (zBB t581 x10_2) from ge588_0);clear hv588_0 ge588_0;clear hcc588 hce588;have HR588_0:=zA hi588_0;have HC588_0:=zA hl588_0;clear hi588_0 hl588_0;replace p588:=qT p588;replace q588:=qT q588;go_wp2_with (first|(go_at_call 97;(with_reducible refine (ih k2 (qp HK1 HK2) _ _ (zBB t581 x10_2) _ _ l1 t589 t590 _ (qu (qC HR588_0)) HC588_0.out (qc HR1) HC1.out A13.out).mono ?_);rintro e w17 ⟨rfl,hb⟩;replace HO_6:=zA (Kd.S_below (qS HO_6) hb);replace HO_8:=zA (Kd.R_below (qR HO_8) hb);replace HL588_0:=zA (Kd.R_below (qR HL588_0) hb);replace HR588_0:=zA (zT (qC HR588_0) hb);replace HB:=zA (zH qb hb);clear hb;have p16:0 ≤ (x10_2:Int):=qd;have q16:(x10_2:Int) < ((x8_2.length:Int):Int):=qd;obtain ⟨go16,co16,eo16,gb16,gl16,cl16,HG16⟩:=Kd.R_form HO_8.out (by omega);(first|cases eo16|(injection eo16 with ea_ en_ ec_;(first|subst ea_|(injection ea_ with ea_;subst ea_));subst ec_;clear en_));have GB16:=zA gb16;have GG16:=zA HG16;clear gb16 gl16 HG16;obtain ⟨hx16_0,hf16_0⟩:=Kd.R_celln 0 HO_8.out (x10_2:Int) p16 q16;replace p16:=qT p16;replace q16:=qT q16;obtain ⟨hy18_,hz18_⟩:=Kd.R_celln 0 HO_8.out (x10_2:Int) (qd) (qd);have HP18:=Kd.R_putg HO_8.out (x10_2:Int) t589)|((with_reducible refine gate_store (t:=3) (p:=51) rfl ?_);(try (rw [drewN_self w17];generalize hq_:World.drewN w17 _ = w17;have n0_:=zA (Kd.S_at hq_ HO_6.out);have n1_:=zA (Kd.R_at hq_ HO_8.out);have n2_:=zA (Kd.R_at hq_ HL588_0.out);have n3_:=zA (below_at hq_ HB.out);clear hq_ HO_6 HO_8 HL588_0 HB;have HO_6:=n0_;have HO_8:=n1_;have HL588_0:=n2_;have HB:=n3_;clear n0_ n1_ n2_ n3_;(try (obtain ⟨hy18_,hz18_⟩:=Kd.R_celln 0 HO_8.out (x10_2:Int) (qd) (qd)));(try (have HP18:=Kd.R_putg HO_8.out (x10_2:Int) t589))));refine zBU (t:=3) (p:=51) (v:=?vo_w19) (w1:=(w17.setCell ⟨go16,(x10_2:Int).toNat,none⟩ (.int .i64 t589))) ?hg ?ho ?hn ?hr ?_;(case ho=>rfl);(case hg=>rfl);(case hn=>rfl);(case hr=>first|(go_simp;done)|(go_simp;rfl));intro w19 hw;have hg:w17.grownBy w19 (some go16):=(by rw [hw];exact HP18.2);have hp_:Kd.R (Kd.int .i64) 3 w19 w.heap.size (fun _=>True) (.slice (some ⟨go16,0,none⟩) x8_2.length co16) y591:=(by rw [hw,Ny591.out];exact HP18.1);clear HP18;replace HO_6:=zA (Kd.S_over' (v:=(.slice (some ⟨go16,0,none⟩) x8_2.length co16)) (qS HO_6) (Kd.R_typed HO_8.out) (by decide) hg);replace HL588_0:=zA (Kd.R_over' (v:=(.slice (some ⟨go16,0,none⟩) x8_2.length co16)) (qR HL588_0) (Kd.R_typed HO_8.out) (by decide) hg);replace HO_8:=zA (hp_);replace HB:=zA ((by rw [hw];exact zF (HB.out) GB16.out:Below w.heap.size w w19));clear hg hw hp_));go_roundg k2
           case measure=>have:=HK1.out;have:=HK2.out;omega
           case rel=>exact ⟨(y591),(wrap64 (x10_2 - 1)),qr,H',⟨qp HK1 HK2⟩,⟨qS HO_6⟩,⟨qR HO_8⟩,⟨qb⟩⟩
          ·nomatch H
         ·obtain ⟨rfl,rfl⟩:=qP H;have p588:0 ≤ (x10_2:Int):=qd;have q588:x10_2 < (t581.length:Int):=qd;obtain ⟨ad588,A588_0,c588_0,e588,hx588_0,hl588_0,hi588_0⟩:=zBW (Kd.S_reads' HO_6.out).2.2 x10_2 p588 q588;cases e588;obtain ⟨ce588,hce588,hMe588,hcc588⟩:=Kd.S_get HO_6.out [] x10_2 p588 (by first|exact q588|exact qd|(have e_:=(Kd.S_reads' HO_6.out).1;omega));obtain ⟨ve588_0,rfl,ge588_0⟩:=hMe588;have hv588_0:=hcc588 0 _ rfl;rw [Nat.add_zero,show ((Kd.slice 96 k96)).sz = 1 from rfl,Nat.mul_one] at hv588_0;replace hv588_0:=Option.some.inj (hv588_0.symm.trans hx588_0);rw [hv588_0] at ge588_0;have HL588_0:=zA (show Kd.R k96 96 _ _ _ _ (zBB t581 x10_2) from ge588_0);clear hv588_0 ge588_0;clear hcc588 hce588;have HR588_0:=zA hi588_0;have HC588_0:=zA hl588_0;clear hi588_0 hl588_0;replace p588:=qT p588;replace q588:=qT q588;go_wp2_with (first|(go_at_call 97;(with_reducible refine (ih k2 (qp HK1 HK2) _ _ (zBB t581 x10_2) _ _ l1 t589 t590 _ (qu (qC HR588_0)) HC588_0.out (qc HR1) HC1.out A13.out).mono ?_);rintro e w20 ⟨rfl,hb⟩;replace HO_6:=zA (Kd.S_below (qS HO_6) hb);replace HO_8:=zA (Kd.R_below (qR HO_8) hb);replace HL588_0:=zA (Kd.R_below (qR HL588_0) hb);replace HR588_0:=zA (zT (qC HR588_0) hb);replace HB:=zA (zH qb hb);clear hb));go_ret2;exact ⟨qe,qb⟩
        ·nomatch H
       ·nomatch H
      ·rw [if_neg c10] at H;have c10b0:decide (0 ≤ x10_2) = false:=zR c10;clear c10;by_cases c21:0 < (l0.length:Int)
       ·rw [if_pos c21] at H;have c21b0:decide (0 < (l0.length:Int)) = true:=zQ c21;have c21b1:decide (0 < l0.length) = true:=zQ (by omega);clear c21;have HC22:=zA H;clear H;have p592:0 ≤ (0:Int):=(by omega);have q592:0 < (l0.length:Int):=qd;obtain ⟨ad592,e592,hx592_0,hx592_1⟩:=zA6 HR0.out 0 p592 q592;cases e592;have qi592:(0 < l0.length) = True:=qT (by omega);(try rw [show ((0:Int)).toNat = 0 from rfl] at hx592_0);(try rw [show 0 * 2 = 0 from rfl] at hx592_0);(try rw [Addr.add_zero'] at hx592_0);(try rw [show ((0:Int)).toNat = 0 from rfl] at hx592_1);(try rw [show 0 * 2 = 0 from rfl] at hx592_1);(try rw [Addr.add_zero'] at hx592_1);replace hx592_0:=qy HB hx592_0;replace hx592_1:=qy HB hx592_1;replace p592:=qT p592;replace q592:=qT q592;go_upto_block 4 with (fail);go_cut [13,14] (fun v13 v14 wc=>∃ (kq:Nat) (x13_21:Int) (x14_21:Bool),v13 = .int .i64 x13_21∧v14 = .bool x14_21∧Aside0 (zAD.j2 kq x13_21 x14_21 = some (r1,r2))∧Aside0 (kq ≤ k2)∧Aside0 (Below w.heap.size w wc))
        case first =>
         have H:=HC22.out;clear HC22;rcases qE H with ⟨c23b0,c23b1,H⟩|⟨c23,c23b0,c23b1,H⟩
         ·(first|rw [c23b0]|(simp only [i64_w,i32_w];rw [c23b0])|skip);have H':=zA H;clear H;have p593:0 ≤ (0:Int):=(by omega);have q593:0 < (l0.length:Int):=qd;obtain ⟨ad593,e593,hx593_0,hx593_1⟩:=zA6 HR0.out 0 p593 q593;obtain rfl:ad592 = ad593:=(by injection e593);have qi593:(0 < l0.length) = True:=qT (by omega);(try rw [show ((0:Int)).toNat = 0 from rfl] at hx593_0);(try rw [show 0 * 2 = 0 from rfl] at hx593_0);(try rw [Addr.add_zero'] at hx593_0);(try rw [show ((0:Int)).toNat = 0 from rfl] at hx593_1);(try rw [show 0 * 2 = 0 from rfl] at hx593_1);(try rw [Addr.add_zero'] at hx593_1);replace hx593_0:=qy HB hx593_0;replace hx593_1:=qy HB hx593_1;replace p593:=qT p593;replace q593:=qT q593;go_wp2;go_meet
          case rel=>exact ⟨_,((zAI l0 0).f1),(false),qr,qr,H',⟨qp HK1 HK2⟩,⟨qb⟩⟩
         ·(first|rw [c23b0]|(simp only [i64_w,i32_w];rw [c23b0])|skip);rcases qE H with ⟨c24b0,c24b1,H⟩|⟨c24,c24b0,c24b1,H⟩
          ·rcases qj H with ⟨c25b0,H⟩|⟨c25,H⟩
           ·rcases qj H with ⟨c26b0,H⟩|⟨c26,H⟩
            ·have H':=zA H;clear H;have p594:0 ≤ (0:Int):=(by omega);have q594:0 < (l0.length:Int):=qd;obtain ⟨ad594,e594,hx594_0,hx594_1⟩:=zA6 HR0.out 0 p594 q594;obtain rfl:ad592 = ad594:=(by injection e594);have qi594:(0 < l0.length) = True:=qT (by omega);(try rw [show ((0:Int)).toNat = 0 from rfl] at hx594_0);(try rw [show 0 * 2 = 0 from rfl] at hx594_0);(try rw [Addr.add_zero'] at hx594_0);(try rw [show ((0:Int)).toNat = 0 from rfl] at hx594_1);(try rw [show 0 * 2 = 0 from rfl] at hx594_1);(try rw [Addr.add_zero'] at hx594_1);replace hx594_0:=qy HB hx594_0;replace hx594_1:=qy HB hx594_1;replace p594:=qT p594;replace q594:=qT q594;have p595:0 ≤ (((zAI l0 0).f1):Int):=qd;have q595:((zAI l0 0).f1) < (l1.length:Int):=qd;obtain ⟨ad595,e595,hx595_0⟩:=Kd.at_int (qW HR1 HB) ((zAI l0 0).f1) p595 q595;cases e595;replace p595:=qT p595;replace q595:=qT q595;go_wp2;go_meet
             case rel=>exact ⟨_,(rd l1 ((zAI l0 0).f1)),(false),qr,qr,H',⟨qp HK1 HK2⟩,⟨qb⟩⟩
            ·nomatch H
           ·nomatch H
          ·rcases qE H with ⟨c27b0,c27b1,H⟩|⟨c27,c27b0,c27b1,H⟩
           ·by_cases c28:0 < (x8_2.length:Int)
            ·rw [if_pos c28] at H;have c28b0:decide (0 < (x8_2.length:Int)) = true:=zQ c28;have c28b1:decide (0 < x8_2.length) = true:=zQ (by omega);clear c28;by_cases c29:1 < (x8_2.length:Int)
             ·rw [if_pos c29] at H;have c29b0:decide (1 < (x8_2.length:Int)) = true:=zQ c29;have c29b1:decide (1 < x8_2.length) = true:=zQ (by omega);clear c29;have H':=zA H;clear H;obtain ⟨Ao30,co30,eo30⟩:=Kd.R_slice HO_8.out;subst eo30;have p596:0 ≤ (0:Int):=(by omega);have q596:0 < (x8_2.length:Int):=qd;(try (obtain ⟨A_,c_,e_⟩:=Kd.R_slice HO_8.out;subst e_));obtain ⟨ad596,e596,hx596_0⟩:=Kd.at_int (Kd.R_reads' HO_8.out).2.2 0 p596 q596;cases e596;have qi596:(0 < x8_2.length) = True:=qT (by omega);(try rw [show ((0:Int)).toNat = 0 from rfl] at hx596_0);(try rw [Addr.add_zero'] at hx596_0);replace p596:=qT p596;replace q596:=qT q596;have p597:0 ≤ (1:Int):=(by omega);have q597:1 < (x8_2.length:Int):=qd;(try (obtain ⟨A_,c_,e_⟩:=Kd.R_slice HO_8.out;subst e_));obtain ⟨ad597,e597,hx597_0⟩:=Kd.at_int (Kd.R_reads' HO_8.out).2.2 1 p597 q597;obtain rfl:ad596 = ad597:=(by injection e597);(try simp only [show (1:Int).toNat = 1 from rfl,Nat.reduceMul,Nat.reduceEqDiff,Go.Addr.add,↓reduceIte] at hx597_0);have qi597:(1 < x8_2.length) = True:=qT (by omega);(try rw [show ((1:Int)).toNat = 1 from rfl] at hx597_0);replace p597:=qT p597;replace q597:=qT q597;go_wp2;(repeat (go_quiet (fail);try go_wp2));go_meet
              case rel=>exact ⟨_,(wrap64 ((rd x8_2 0) + (rd x8_2 1))),(false),qr,qr,H',⟨qp HK1 HK2⟩,⟨qb⟩⟩
             ·rw [if_neg c29] at H;nomatch H
            ·rw [if_neg c28] at H;nomatch H
           ·rcases qE H with ⟨c31b0,c31b1,H⟩|⟨c31,c31b0,c31b1,H⟩
            ·by_cases c32:0 < (x8_2.length:Int)
             ·rw [if_pos c32] at H;have c32b0:decide (0 < (x8_2.length:Int)) = true:=zQ c32;have c32b1:decide (0 < x8_2.length) = true:=zQ (by omega);clear c32;by_cases c33:1 < (x8_2.length:Int)
              ·rw [if_pos c33] at H;have c33b0:decide (1 < (x8_2.length:Int)) = true:=zQ c33;have c33b1:decide (1 < x8_2.length) = true:=zQ (by omega);clear c33;have H':=zA H;clear H;obtain ⟨Ao34,co34,eo34⟩:=Kd.R_slice HO_8.out;subst eo34;have p598:0 ≤ (0:Int):=(by omega);have q598:0 < (x8_2.length:Int):=qd;(try (obtain ⟨A_,c_,e_⟩:=Kd.R_slice HO_8.out;subst e_));obtain ⟨ad598,e598,hx598_0⟩:=Kd.at_int (Kd.R_reads' HO_8.out).2.2 0 p598 q598;cases e598;have qi598:(0 < x8_2.length) = True:=qT (by omega);(try rw [show ((0:Int)).toNat = 0 from rfl] at hx598_0);(try rw [Addr.add_zero'] at hx598_0);replace p598:=qT p598;replace q598:=qT q598;have p599:0 ≤ (1:Int):=(by omega);have q599:1 < (x8_2.length:Int):=qd;(try (obtain ⟨A_,c_,e_⟩:=Kd.R_slice HO_8.out;subst e_));obtain ⟨ad599,e599,hx599_0⟩:=Kd.at_int (Kd.R_reads' HO_8.out).2.2 1 p599 q599;obtain rfl:ad598 = ad599:=(by injection e599);(try simp only [show (1:Int).toNat = 1 from rfl,Nat.reduceMul,Nat.reduceEqDiff,Go.Addr.add,↓reduceIte] at hx599_0);have qi599:(1 < x8_2.length) = True:=qT (by omega);(try rw [show ((1:Int)).toNat = 1 from rfl] at hx599_0);replace p599:=qT p599;replace q599:=qT q599;go_wp2;(repeat (go_quiet (fail);try go_wp2));go_meet
               case rel=>exact ⟨_,(wrap64 ((rd x8_2 0) - (rd x8_2 1))),(false),qr,qr,H',⟨qp HK1 HK2⟩,⟨qb⟩⟩
              ·rw [if_neg c33] at H;nomatch H
             ·rw [if_neg c32] at H;nomatch H
            ·rcases qE H with ⟨c35b0,c35b1,H⟩|⟨c35,c35b0,c35b1,H⟩
             ·by_cases c36:0 < (x8_2.length:Int)
              ·rw [if_pos c36] at H;have c36b0:decide (0 < (x8_2.length:Int)) = true:=zQ c36;have c36b1:decide (0 < x8_2.length) = true:=zQ (by omega);clear c36;by_cases c37:1 < (x8_2.length:Int)
               ·rw [if_pos c37] at H;have c37b0:decide (1 < (x8_2.length:Int)) = true:=zQ c37;have c37b1:decide (1 < x8_2.length) = true:=zQ (by omega);clear c37;have H':=zA H;clear H;obtain ⟨Ao38,co38,eo38⟩:=Kd.R_slice HO_8.out;subst eo38;have p600:0 ≤ (0:Int):=(by omega);have q600:0 < (x8_2.length:Int):=qd;(try (obtain ⟨A_,c_,e_⟩:=Kd.R_slice HO_8.out;subst e_));obtain ⟨ad600,e600,hx600_0⟩:=Kd.at_int (Kd.R_reads' HO_8.out).2.2 0 p600 q600;cases e600;have qi600:(0 < x8_2.length) = True:=qT (by omega);(try rw [show ((0:Int)).toNat = 0 from rfl] at hx600_0);(try rw [Addr.add_zero'] at hx600_0);replace p600:=qT p600;replace q600:=qT q600;have p601:0 ≤ (1:Int):=(by omega);have q601:1 < (x8_2.length:Int):=qd;(try (obtain ⟨A_,c_,e_⟩:=Kd.R_slice HO_8.out;subst e_));obtain ⟨ad601,e601,hx601_0⟩:=Kd.at_int (Kd.R_reads' HO_8.out).2.2 1 p601 q601;obtain rfl:ad600 = ad601:=(by injection e601);(try simp only [show (1:Int).toNat = 1 from rfl,Nat.reduceMul,Nat.reduceEqDiff,Go.Addr.add,↓reduceIte] at hx601_0);have qi601:(1 < x8_2.length) = True:=qT (by omega);(try rw [show ((1:Int)).toNat = 1 from rfl] at hx601_0);replace p601:=qT p601;replace q601:=qT q601;go_wp2;(repeat (go_quiet (fail);try go_wp2));go_meet
                case rel=>exact ⟨_,(wrap64 ((rd x8_2 0) * (rd x8_2 1))),(false),qr,qr,H',⟨qp HK1 HK2⟩,⟨qb⟩⟩
               ·rw [if_neg c37] at H;nomatch H
              ·rw [if_neg c36] at H;nomatch H
             ·rcases qE H with ⟨c39b0,c39b1,H⟩|⟨c39,c39b0,c39b1,H⟩
              ·by_cases c40:0 < (x8_2.length:Int)
               ·rw [if_pos c40] at H;have c40b0:decide (0 < (x8_2.length:Int)) = true:=zQ c40;have c40b1:decide (0 < x8_2.length) = true:=zQ (by omega);clear c40;by_cases c41:1 < (x8_2.length:Int)
                ·rw [if_pos c41] at H;have c41b0:decide (1 < (x8_2.length:Int)) = true:=zQ c41;have c41b1:decide (1 < x8_2.length) = true:=zQ (by omega);clear c41;have H':=zA H;clear H;obtain ⟨Ao42,co42,eo42⟩:=Kd.R_slice HO_8.out;subst eo42;have p602:0 ≤ (0:Int):=(by omega);have q602:0 < (x8_2.length:Int):=qd;(try (obtain ⟨A_,c_,e_⟩:=Kd.R_slice HO_8.out;subst e_));obtain ⟨ad602,e602,hx602_0⟩:=Kd.at_int (Kd.R_reads' HO_8.out).2.2 0 p602 q602;cases e602;have qi602:(0 < x8_2.length) = True:=qT (by omega);(try rw [show ((0:Int)).toNat = 0 from rfl] at hx602_0);(try rw [Addr.add_zero'] at hx602_0);replace p602:=qT p602;replace q602:=qT q602;have p603:0 ≤ (1:Int):=(by omega);have q603:1 < (x8_2.length:Int):=qd;(try (obtain ⟨A_,c_,e_⟩:=Kd.R_slice HO_8.out;subst e_));obtain ⟨ad603,e603,hx603_0⟩:=Kd.at_int (Kd.R_reads' HO_8.out).2.2 1 p603 q603;obtain rfl:ad602 = ad603:=(by injection e603);(try simp only [show (1:Int).toNat = 1 from rfl,Nat.reduceMul,Nat.reduceEqDiff,Go.Addr.add,↓reduceIte] at hx603_0);have qi603:(1 < x8_2.length) = True:=qT (by omega);(try rw [show ((1:Int)).toNat = 1 from rfl] at hx603_0);replace p603:=qT p603;replace q603:=qT q603;go_wp2;(repeat (go_quiet (fail);try go_wp2));go_meet
                 case rel=>exact ⟨_,(0),(((rd x8_2 0) == (rd x8_2 1))),qr,qr,H',⟨qp HK1 HK2⟩,⟨qb⟩⟩
                ·rw [if_neg c41] at H;nomatch H
               ·rw [if_neg c40] at H;nomatch H
              ·rcases qE H with ⟨c43b0,c43b1,H⟩|⟨c43,c43b0,c43b1,H⟩
               ·by_cases c44:0 < (x8_2.length:Int)
                ·rw [if_pos c44] at H;have c44b0:decide (0 < (x8_2.length:Int)) = true:=zQ c44;have c44b1:decide (0 < x8_2.length) = true:=zQ (by omega);clear c44;by_cases c45:1 < (x8_2.length:Int)
                 ·rw [if_pos c45] at H;have c45b0:decide (1 < (x8_2.length:Int)) = true:=zQ c45;have c45b1:decide (1 < x8_2.length) = true:=zQ (by omega);clear c45;have H':=zA H;clear H;obtain ⟨Ao46,co46,eo46⟩:=Kd.R_slice HO_8.out;subst eo46;have p604:0 ≤ (0:Int):=(by omega);have q604:0 < (x8_2.length:Int):=qd;(try (obtain ⟨A_,c_,e_⟩:=Kd.R_slice HO_8.out;subst e_));obtain ⟨ad604,e604,hx604_0⟩:=Kd.at_int (Kd.R_reads' HO_8.out).2.2 0 p604 q604;cases e604;have qi604:(0 < x8_2.length) = True:=qT (by omega);(try rw [show ((0:Int)).toNat = 0 from rfl] at hx604_0);(try rw [Addr.add_zero'] at hx604_0);replace p604:=qT p604;replace q604:=qT q604;have p605:0 ≤ (1:Int):=(by omega);have q605:1 < (x8_2.length:Int):=qd;(try (obtain ⟨A_,c_,e_⟩:=Kd.R_slice HO_8.out;subst e_));obtain ⟨ad605,e605,hx605_0⟩:=Kd.at_int (Kd.R_reads' HO_8.out).2.2 1 p605 q605;obtain rfl:ad604 = ad605:=(by injection e605);(try simp only [show (1:Int).toNat = 1 from rfl,Nat.reduceMul,Nat.reduceEqDiff,Go.Addr.add,↓reduceIte] at hx605_0);have qi605:(1 < x8_2.length) = True:=qT (by omega);(try rw [show ((1:Int)).toNat = 1 from rfl] at hx605_0);replace p605:=qT p605;replace q605:=qT q605;go_wp2;(repeat (go_quiet (fail);try go_wp2));go_meet
                  case rel=>exact ⟨_,(0),(decide ((rd x8_2 0) < (rd x8_2 1))),qr,qr,H',⟨qp HK1 HK2⟩,⟨qb⟩⟩
                 ·rw [if_neg c45] at H;nomatch H
                ·rw [if_neg c44] at H;nomatch H
               ·rcases qE H with ⟨c47b0,c47b1,H⟩|⟨c47,c47b0,c47b1,H⟩
                ·by_cases c48:0 < (x8_2.length:Int)
                 ·rw [if_pos c48] at H;have c48b0:decide (0 < (x8_2.length:Int)) = true:=zQ c48;have c48b1:decide (0 < x8_2.length) = true:=zQ (by omega);clear c48;rcases qE H with ⟨c49b0,c49b1,H⟩|⟨c49,c49b0,c49b1,H⟩
                  ·by_cases c50:1 < (x8_2.length:Int)
                   ·rw [if_pos c50] at H;have c50b0:decide (1 < (x8_2.length:Int)) = true:=zQ c50;have c50b1:decide (1 < x8_2.length) = true:=zQ (by omega);clear c50;have H':=zA H;clear H;obtain ⟨Ao51,co51,eo51⟩:=Kd.R_slice HO_8.out;subst eo51;have p606:0 ≤ (0:Int):=(by omega);have q606:0 < (x8_2.length:Int):=qd;(try (obtain ⟨A_,c_,e_⟩:=Kd.R_slice HO_8.out;subst e_));obtain ⟨ad606,e606,hx606_0⟩:=Kd.at_int (Kd.R_reads' HO_8.out).2.2 0 p606 q606;cases e606;have qi606:(0 < x8_2.length) = True:=qT (by omega);(try rw [show ((0:Int)).toNat = 0 from rfl] at hx606_0);(try rw [Addr.add_zero'] at hx606_0);replace p606:=qT p606;replace q606:=qT q606;have p607:0 ≤ (1:Int):=(by omega);have q607:1 < (x8_2.length:Int):=qd;(try (obtain ⟨A_,c_,e_⟩:=Kd.R_slice HO_8.out;subst e_));obtain ⟨ad607,e607,hx607_0⟩:=Kd.at_int (Kd.R_reads' HO_8.out).2.2 1 p607 q607;obtain rfl:ad606 = ad607:=(by injection e607);(try simp only [show (1:Int).toNat = 1 from rfl,Nat.reduceMul,Nat.reduceEqDiff,Go.Addr.add,↓reduceIte] at hx607_0);have qi607:(1 < x8_2.length) = True:=qT (by omega);(try rw [show ((1:Int)).toNat = 1 from rfl] at hx607_0);replace p607:=qT p607;replace q607:=qT q607;go_wp2;go_meet
                    case rel=>exact ⟨_,(0),(((rd x8_2 1) == 1)),qr,qr,H',⟨qp HK1 HK2⟩,⟨qb⟩⟩
                   ·rw [if_neg c50] at H;nomatch H
                  ·have H':=zA H;clear H;obtain ⟨Ao52,co52,eo52⟩:=Kd.R_slice HO_8.out;subst eo52;have p606:0 ≤ (0:Int):=(by omega);have q606:0 < (x8_2.length:Int):=qd;(try (obtain ⟨A_,c_,e_⟩:=Kd.R_slice HO_8.out;subst e_));obtain ⟨ad606,e606,hx606_0⟩:=Kd.at_int (Kd.R_reads' HO_8.out).2.2 0 p606 q606;cases e606;have qi606:(0 < x8_2.length) = True:=qT (by omega);(try rw [show ((0:Int)).toNat = 0 from rfl] at hx606_0);(try rw [Addr.add_zero'] at hx606_0);replace p606:=qT p606;replace q606:=qT q606;go_wp2;go_meet
                   case rel=>exact ⟨_,(0),(false),qr,qr,H',⟨qp HK1 HK2⟩,⟨qb⟩⟩
                 ·rw [if_neg c48] at H;nomatch H
                ·rcases qE H with ⟨c53b0,c53b1,H⟩|⟨c53,c53b0,c53b1,H⟩
                 ·by_cases c54:0 < (x8_2.length:Int)
                  ·rw [if_pos c54] at H;have c54b0:decide (0 < (x8_2.length:Int)) = true:=zQ c54;have c54b1:decide (0 < x8_2.length) = true:=zQ (by omega);clear c54;rcases qE H with ⟨c55b0,c55b1,H⟩|⟨c55,c55b0,c55b1,H⟩
                   ·have H':=zA H;clear H;obtain ⟨Ao56,co56,eo56⟩:=Kd.R_slice HO_8.out;subst eo56;have p608:0 ≤ (0:Int):=(by omega);have q608:0 < (x8_2.length:Int):=qd;(try (obtain ⟨A_,c_,e_⟩:=Kd.R_slice HO_8.out;subst e_));obtain ⟨ad608,e608,hx608_0⟩:=Kd.at_int (Kd.R_reads' HO_8.out).2.2 0 p608 q608;cases e608;have qi608:(0 < x8_2.length) = True:=qT (by omega);(try rw [show ((0:Int)).toNat = 0 from rfl] at hx608_0);(try rw [Addr.add_zero'] at hx608_0);replace p608:=qT p608;replace q608:=qT q608;go_wp2;go_meet
                    case rel=>exact ⟨_,(0),(true),qr,qr,H',⟨qp HK1 HK2⟩,⟨qb⟩⟩
                   ·by_cases c57:1 < (x8_2.length:Int)
                    ·rw [if_pos c57] at H;have c57b0:decide (1 < (x8_2.length:Int)) = true:=zQ c57;have c57b1:decide (1 < x8_2.length) = true:=zQ (by omega);clear c57;have H':=zA H;clear H;obtain ⟨Ao58,co58,eo58⟩:=Kd.R_slice HO_8.out;subst eo58;have p608:0 ≤ (0:Int):=(by omega);have q608:0 < (x8_2.length:Int):=qd;(try (obtain ⟨A_,c_,e_⟩:=Kd.R_slice HO_8.out;subst e_));obtain ⟨ad608,e608,hx608_0⟩:=Kd.at_int (Kd.R_reads' HO_8.out).2.2 0 p608 q608;cases e608;have qi608:(0 < x8_2.length) = True:=qT (by omega);(try rw [show ((0:Int)).toNat = 0 from rfl] at hx608_0);(try rw [Addr.add_zero'] at hx608_0);replace p608:=qT p608;replace q608:=qT q608;have p609:0 ≤ (1:Int):=(by omega);have q609:1 < (x8_2.length:Int):=qd;(try (obtain ⟨A_,c_,e_⟩:=Kd.R_slice HO_8.out;subst e_));obtain ⟨ad609,e609,hx609_0⟩:=Kd.at_int (Kd.R_reads' HO_8.out).2.2 1 p609 q609;obtain rfl:ad608 = ad609:=(by injection e609);(try simp only [show (1:Int).toNat = 1 from rfl,Nat.reduceMul,Nat.reduceEqDiff,Go.Addr.add,↓reduceIte] at hx609_0);have qi609:(1 < x8_2.length) = True:=qT (by omega);(try rw [show ((1:Int)).toNat = 1 from rfl] at hx609_0);replace p609:=qT p609;replace q609:=qT q609;go_wp2;go_meet
                     case rel=>exact ⟨_,(0),(((rd x8_2 1) == 1)),qr,qr,H',⟨qp HK1 HK2⟩,⟨qb⟩⟩
                    ·rw [if_neg c57] at H;nomatch H
                  ·rw [if_neg c54] at H;nomatch H
                 ·rcases qE H with ⟨c59b0,c59b1,H⟩|⟨c59,c59b0,c59b1,H⟩
                  ·by_cases c60:0 < (x8_2.length:Int)
                   ·rw [if_pos c60] at H;have c60b0:decide (0 < (x8_2.length:Int)) = true:=zQ c60;have c60b1:decide (0 < x8_2.length) = true:=zQ (by omega);clear c60;have H':=zA H;clear H;obtain ⟨Ao61,co61,eo61⟩:=Kd.R_slice HO_8.out;subst eo61;have p610:0 ≤ (0:Int):=(by omega);have q610:0 < (x8_2.length:Int):=qd;(try (obtain ⟨A_,c_,e_⟩:=Kd.R_slice HO_8.out;subst e_));obtain ⟨ad610,e610,hx610_0⟩:=Kd.at_int (Kd.R_reads' HO_8.out).2.2 0 p610 q610;cases e610;have qi610:(0 < x8_2.length) = True:=qT (by omega);(try rw [show ((0:Int)).toNat = 0 from rfl] at hx610_0);(try rw [Addr.add_zero'] at hx610_0);replace p610:=qT p610;replace q610:=qT q610;go_wp2;go_meet
                    case rel=>exact ⟨_,(0),(((rd x8_2 0) == 0)),qr,qr,H',⟨qp HK1 HK2⟩,⟨qb⟩⟩
                   ·rw [if_neg c60] at H;nomatch H
                  ·rcases qE H with ⟨c62b0,c62b1,H⟩|⟨c62,c62b0,c62b1,H⟩
                   ·have H':=zA H;clear H;go_wp2;go_meet
                    case rel=>exact ⟨_,(0),(true),qr,qr,H',⟨qp HK1 HK2⟩,⟨qb⟩⟩
                   ·have H':=zA H;clear H;go_wp2;go_meet
                    case rel=>exact ⟨_,(0),(false),qr,qr,H',⟨qp HK1 HK2⟩,⟨qb⟩⟩
        case rest =>
         clear HC22;obtain ⟨kq,x13_21,x14_21,rfl,rfl,HA,HJ21,HB⟩:=hcut;cases kq with
         | zero=>exact absurd HA.out (by simp [zAD.j2])
         | succ kj21 =>
          have H:=HA.out;clear HA;simp only [zAD.j2] at H;by_cases c63:x14_21 = true
          ·subst c63;rw [if_pos rfl] at H
           replace H:=zb.mp H;obtain ⟨t611,A640,H⟩:=H;(try dsimp only at H);have A64:=zA A640;clear A640;by_cases c65:t611 = true
           ·subst c65;rw [if_pos rfl] at H
            obtain ⟨rfl,rfl⟩:=qP H;go_wp2_with (first|(go_at_call 29;(with_reducible refine (zAE.calls 1 (-1000000) 1000000 true _ A64.out).mono ?_);rintro e w' ⟨rfl,⟨nd,rfl⟩⟩;(try first|exact ⟨rfl,_,World.drewN_drewN _ _ _⟩|exact ⟨rfl,_,Eq.trans (World.drewN_drewN _ _ _) (congrArg (World.drewN _) (Nat.add_assoc _ _ _))⟩)));go_ret2;exact ⟨qe,qb⟩
           ·replace c65:=Bool.eq_false_iff.mpr c65;subst c65;rw [if_neg (show ¬ (false = true) by decide)] at H
            obtain ⟨rfl,rfl⟩:=qP H;go_wp2_with (first|(go_at_call 29;(with_reducible refine (zAE.calls 1 (-1000000) 1000000 false _ A64.out).mono ?_);rintro e w' ⟨rfl,⟨nd,rfl⟩⟩;(try first|exact ⟨rfl,_,World.drewN_drewN _ _ _⟩|exact ⟨rfl,_,Eq.trans (World.drewN_drewN _ _ _) (congrArg (World.drewN _) (Nat.add_assoc _ _ _))⟩)));go_ret2;exact ⟨qe,qb⟩
          ·replace c63:=Bool.eq_false_iff.mpr c63;subst c63;rw [if_neg (show ¬ (false = true) by decide)] at H
           replace H:=zb.mp H;obtain ⟨t612,A660,H⟩:=H;(try dsimp only at H);have A66:=zA A660;clear A660;by_cases c67:t612 = true
           ·subst c67;rw [if_pos rfl] at H
            obtain ⟨rfl,rfl⟩:=qP H;go_wp2_with (first|(go_at_call 29;(with_reducible refine (zAE.calls x13_21 (-1000000) 1000000 true _ A66.out).mono ?_);rintro e w' ⟨rfl,⟨nd,rfl⟩⟩;(try first|exact ⟨rfl,_,World.drewN_drewN _ _ _⟩|exact ⟨rfl,_,Eq.trans (World.drewN_drewN _ _ _) (congrArg (World.drewN _) (Nat.add_assoc _ _ _))⟩)));go_ret2;exact ⟨qe,qb⟩
           ·replace c67:=Bool.eq_false_iff.mpr c67;subst c67;rw [if_neg (show ¬ (false = true) by decide)] at H
            obtain ⟨rfl,rfl⟩:=qP H;go_wp2_with (first|(go_at_call 29;(with_reducible refine (zAE.calls x13_21 (-1000000) 1000000 false _ A66.out).mono ?_);rintro e w' ⟨rfl,⟨nd,rfl⟩⟩;(try first|exact ⟨rfl,_,World.drewN_drewN _ _ _⟩|exact ⟨rfl,_,Eq.trans (World.drewN_drewN _ _ _) (congrArg (World.drewN _) (Nat.add_assoc _ _ _))⟩)));go_ret2;exact ⟨qe,qb⟩
       ·rw [if_neg c21] at H;nomatch H
def zAW.l0:Nat → List (S96) → List Int → Int → Option (Int × Int)
 | 0,_,_,_=>none
 | k + 1,x0,x1,x8=>if x8 < (x1.length:Int) then (if 0 ≤ x8 then ((zAE.f (rd x1 x8) (-1000000) 1000000).bind fun t616=>(if t616 = true then (zAW.l0 k x0 x1 (wrap64 (x8 + 1))) else (some (0,2)))) else (none)) else ((zAD.f k x0 x1).bind fun bt617=>(some (bt617.1,bt617.2)))
def zAW.f (k:Nat) (l0:List (S96)) (l1:List Int):Option (Int × Int):=(zAM.f k l0 (l1.length:Int)).bind fun bt613=>(if bt613.2 = 0 then (zAW.l0 k l0 l1 0) else (some (0,bt613.2)))
theorem zAW.mono_l:∀ k,(∀ y0 y1 y2,LeO (zAW.l0 k y0 y1 y2) (zAW.l0 (k + 1) y0 y1 y2))
 | 0=>fun _ _ _ r h=>by simp [zAW.l0] at h
 | k + 1=>by
  have ih0:=zAW.mono_l k
  ·intro y0 y1 y2
   unfold zAW.l0
   exact qM (And.intro @zAM.mono @zAD.mono)
theorem zAW.mono:∀ a0 a1 k,LeO (zAW.f k a0 a1) (zAW.f (k + 1) a0 a1):=by
 intro a0 a1 k;have ih0:=zAW.mono_l k;unfold zAW.f;exact qM (And.intro @zAM.mono @zAD.mono)
set_option maxHeartbeats 8000000 in
set_option maxRecDepth 100000 in
theorem zAW.calls (k:Nat) (A0:Option Addr) (c0:Nat) (l0:List (S96)) (A1:Option Addr) (c1:Nat) (l1:List Int) (r1:Int) (r2:Int) (w:World) (hr0:Kd.C k96 w A0 l0.length l0) (hc0:l0.length ≤ c0) (hr1:Kd.C (Kd.int .i64) w A1 l1.length l1) (hc1:l1.length ≤ c1) (h:zAW.f k l0 l1 = some (r1,r2)) :
  Calls Tryz.prog 66 #[.slice A0 l0.length c0,.slice A1 l1.length c1] w fun e w'=>e = .returned (.tuple #[.int .i64 r1,.int .i64 r2])∧Below w.heap.size w w':=by
 have HR0:=zA hr0;have HC0:=zA hc0;clear hr0 hc0;have HR1:=zA hr1;have HC1:=zA hc1;clear hr1 hc1;have HB:=zA (Below.refl w.heap.size w);have H:((zAM.f k l0 (l1.length:Int)).bind fun bt613=>(if bt613.2 = 0 then (zAW.l0 k l0 l1 0) else (some (0,bt613.2)))) = some (r1,r2):=h;clear h;replace H:=zb.mp H;obtain ⟨⟨t613,t614⟩,A30,H⟩:=H;(try dsimp only at H);have A3:=zA A30;clear A30;rcases qE H with ⟨c4b0,c4b1,H⟩|⟨c4,c4b0,c4b1,H⟩
 ·have H':=zA H;clear H;go_enter Tryz.func66,Tryz.ntmps66;go_wp2_with (first|((with_reducible refine zU (f:=96) rfl ?_);refine gL (some 15) Tryz.func96 #[.slice A0 l0.length c0,.int .i64 (l1.length:Int)] ?_;(with_reducible refine (zAM.calls k _ _ l0 (l1.length:Int) t613 t614 _ (qu HR0.out) HC0.out A3.out).mono ?_);rintro e w5 ⟨rfl,hb⟩;refine ⟨_,rfl,?_⟩;replace HB:=zA (zH qb hb);clear hb));go_loopg [8] k (fun kq v8 w'=>∃ (x8_1:Int),v8 = .int .i64 x8_1∧Aside0 (zAW.l0 kq l0 l1 x8_1 = some (r1,r2))∧Aside0 (kq ≤ k)∧Aside0 (Below w.heap.size w w'))
  case atStart=>exact ⟨(0),qr,H',⟨Nat.le_refl _⟩,⟨qb⟩⟩
  case round =>
   clear H';obtain ⟨x8_1,rfl,HA,HK1,HB⟩:=hrel;cases gk with
   | zero=>exact absurd HA.out (by simp [zAW.l0])
   | succ k1 =>
    have H:=HA.out;clear HA;simp only [zAW.l0] at H;rcases qj H with ⟨c6b0,H⟩|⟨c6b0,H⟩
    ·rcases qj H with ⟨c7b0,H⟩|⟨c7,H⟩
     ·replace H:=zb.mp H;obtain ⟨t616,A80,H⟩:=H;(try dsimp only at H);have A8:=zA A80;clear A80;by_cases c9:t616 = true
      ·subst c9;rw [if_pos rfl] at H
       have H':=zA H;clear H;have p615:0 ≤ (x8_1:Int):=qd;have q615:x8_1 < (l1.length:Int):=qd;obtain ⟨ad615,e615,hx615_0⟩:=Kd.at_int (qW HR1 HB) x8_1 p615 q615;cases e615;replace p615:=qT p615;replace q615:=qT q615;go_wp2_with (first|((with_reducible refine zU (f:=29) rfl ?_);refine gL (some 31) Tryz.func29 #[.int .i64 (rd l1 x8_1),.int .i64 (-1000000),.int .i64 1000000] ?_;(with_reducible refine (zAE.calls (rd l1 x8_1) (-1000000) 1000000 true _ A8.out).mono ?_);rintro e w' ⟨rfl,⟨nd,rfl⟩⟩;refine ⟨_,rfl,?_⟩));go_roundg k1
       case measure=>have:=HK1.out;omega
       case rel=>exact ⟨(wrap64 (x8_1 + 1)),qr,H',⟨qo HK1⟩,⟨qb⟩⟩
      ·replace c9:=Bool.eq_false_iff.mpr c9;subst c9;rw [if_neg (show ¬ (false = true) by decide)] at H
       obtain ⟨rfl,rfl⟩:=qP H;have p615:0 ≤ (x8_1:Int):=qd;have q615:x8_1 < (l1.length:Int):=qd;obtain ⟨ad615,e615,hx615_0⟩:=Kd.at_int (qW HR1 HB) x8_1 p615 q615;cases e615;replace p615:=qT p615;replace q615:=qT q615;go_wp2_with (first|((with_reducible refine zU (f:=29) rfl ?_);refine gL (some 31) Tryz.func29 #[.int .i64 (rd l1 x8_1),.int .i64 (-1000000),.int .i64 1000000] ?_;(with_reducible refine (zAE.calls (rd l1 x8_1) (-1000000) 1000000 false _ A8.out).mono ?_);rintro e w' ⟨rfl,⟨nd,rfl⟩⟩;refine ⟨_,rfl,?_⟩));go_ret2;exact ⟨qe,qb⟩
     ·nomatch H
    ·replace H:=zb.mp H;obtain ⟨⟨t617,t618⟩,A100,H⟩:=H;(try dsimp only at H);have A10:=zA A100;clear A100;obtain ⟨rfl,rfl⟩:=qP H;go_wp2_with (first|((with_reducible refine zU (f:=97) rfl ?_);refine gL (some 36) Tryz.func97 #[.slice A0 l0.length c0,.slice A1 l1.length c1] ?_;(with_reducible refine (zAD.calls k1 _ _ l0 _ _ l1 t617 t618 _ (qc HR0) HC0.out (qc HR1) HC1.out A10.out).mono ?_);rintro e w11 ⟨rfl,hb⟩;refine ⟨_,rfl,?_⟩;replace HB:=zA (zH qb hb);clear hb));go_ret2;exact ⟨qe,qb⟩
 ·obtain ⟨rfl,rfl⟩:=qP H;go_enter Tryz.func66,Tryz.ntmps66;go_wp2_with (first|((with_reducible refine zU (f:=96) rfl ?_);refine gL (some 15) Tryz.func96 #[.slice A0 l0.length c0,.int .i64 (l1.length:Int)] ?_;(with_reducible refine (zAM.calls k _ _ l0 (l1.length:Int) t613 t614 _ (qu HR0.out) HC0.out A3.out).mono ?_);rintro e w12 ⟨rfl,hb⟩;refine ⟨_,rfl,?_⟩;replace HB:=zA (zH qb hb);clear hb));go_ret2;exact ⟨qe,qb⟩
def zAd.l0:Nat → List (List (S96)) → List Int → List Bool → Int → Option (List Bool × Int)
 | 0,_,_,_,_=>none
 | k + 1,x1,x9,x10,x11=>if x11 < (x1.length:Int) then (if 0 ≤ x11 then ((zAW.f k (zBB x1 x11) x9).bind fun bt626=>(if bt626.2 = 0 then (if x10.length < 140737488355328 then (zAd.l0 k x1 x9 (x10 ++ [(bt626.1 == 1)]) (wrap64 (x11 + 1))) else (none)) else (if x10.length < 140737488355328 then (zAd.l0 k x1 x9 (x10 ++ [false]) (wrap64 (x11 + 1))) else (none)))) else (none)) else (some (x10,0))
def zAd.f (k:Nat) (l0_0:List (S113)) (l0_1:List (S102)) (l1:List (List (S96))) (a2:Int):Option (List Bool × Int):=(zAC.f k l0_0 l0_1 l1).bind fun t620=>(if t620 = 0 then ((zAR.f k l0_0 l0_1 a2).bind fun bt621=>(if bt621.2 = 0 then (zAd.l0 k l1 bt621.1 ([]:List Bool) 0) else (some (([]:List Bool),bt621.2)))) else (some (([]:List Bool),t620)))
theorem zAd.mono_l:∀ k,(∀ y0 y1 y2 y3,LeO (zAd.l0 k y0 y1 y2 y3) (zAd.l0 (k + 1) y0 y1 y2 y3))
 | 0=>fun _ _ _ _ r h=>by simp [zAd.l0] at h
 | k + 1=>by
  have ih0:=zAd.mono_l k
  ·intro y0 y1 y2 y3
   unfold zAd.l0
   exact qM (And.intro @zAW.mono (And.intro @zAC.mono @zAR.mono))
theorem zAd.mono:∀ a0 a1 a2 a3 k,LeO (zAd.f k a0 a1 a2 a3) (zAd.f (k + 1) a0 a1 a2 a3):=by
 intro a0 a1 a2 a3 k;have ih0:=zAd.mono_l k;unfold zAd.f;exact qM (And.intro @zAW.mono (And.intro @zAC.mono @zAR.mono))
set_option maxHeartbeats 8000000 in
set_option maxRecDepth 100000 in
theorem zAd.calls (k:Nat) (A0_0:Option Addr) (c0_0:Nat) (l0_0:List (S113)) (A0_1:Option Addr) (c0_1:Nat) (l0_1:List (S102)) (A1:Option Addr) (c1:Nat) (l1:List (List (S96))) (a2:Int) (r1:List Bool) (r2:Int) (w:World) (hr0_0:Kd.C k113 w A0_0 l0_0.length l0_0) (hc0_0:l0_0.length ≤ c0_0) (hr0_1:Kd.C k102 w A0_1 l0_1.length l0_1) (hc0_1:l0_1.length ≤ c0_1) (hr1:Kd.C (Kd.slice 96 k96) w A1 l1.length l1) (hc1:l1.length ≤ c1) (h:zAd.f k l0_0 l0_1 l1 a2 = some (r1,r2)) :
  Calls Tryz.prog 30 #[.agg #[.slice A0_0 l0_0.length c0_0,.slice A0_1 l0_1.length c0_1],.slice A1 l1.length c1,.int .i64 a2] w fun e w'=>∃ v0_:Value,e = .returned (.tuple #[v0_,.int .i64 r2])∧Kd.R Kd.bool 4 w' w.heap.size (fun _=>True) v0_ r1∧Below w.heap.size w w':=by
 have hu25:=Tryz.underlying25;have HR0_0:=zA hr0_0;have HC0_0:=zA hc0_0;clear hr0_0 hc0_0;have HR0_1:=zA hr0_1;have HC0_1:=zA hc0_1;clear hr0_1 hc0_1;have HR1:=zA hr1;have HC1:=zA hc1;clear hr1 hc1;have HB:=zA (Below.refl w.heap.size w);have H:((zAC.f k l0_0 l0_1 l1).bind fun t620=>(if t620 = 0 then ((zAR.f k l0_0 l0_1 a2).bind fun bt621=>(if bt621.2 = 0 then (zAd.l0 k l1 bt621.1 ([]:List Bool) 0) else (some (([]:List Bool),bt621.2)))) else (some (([]:List Bool),t620)))) = some (r1,r2):=h;clear h;replace H:=zb.mp H;obtain ⟨t620,A40,H⟩:=H;(try dsimp only at H);have A4:=zA A40;clear A40;rcases qE H with ⟨c5b0,c5b1,H⟩|⟨c5,c5b0,c5b1,H⟩
 ·replace H:=zb.mp H;obtain ⟨⟨t621,t624⟩,A60,H⟩:=H;(try dsimp only at H);have A6:=zA A60;clear A60;rcases qE H with ⟨c7b0,c7b1,H⟩|⟨c7,c7b0,c7b1,H⟩
  ·have H':=zA H;clear H;go_enter Tryz.func30,Tryz.ntmps30;go_wp2_with (first|((with_reducible refine zV (N:=3) rfl ?_);refine bQ 3 (cs:=#[.slice A0_0 l0_0.length c0_0,.slice A0_1 l0_1.length c0_1]) (t:=25) ?_;intro gb619 hg w8 BK619 hb;have GW619:=zA (qg hg);replace HB:=zA (zH qb hb);clear hb hg;obtain ⟨hcz9_0,hcz9_1⟩:=q2 BK619;have hfz9_0:=zJ BK619.out)|((with_reducible refine zU (f:=61) rfl ?_);refine gL (some 16) Tryz.func61 #[.agg #[.slice A0_0 l0_0.length c0_0,.slice A0_1 l0_1.length c0_1],.slice A1 l1.length c1] ?_;(with_reducible refine (zAC.calls k _ _ l0_0 _ _ l0_1 _ _ l1 t620 _ (qc HR0_0) HC0_0.out (qc HR0_1) HC0_1.out (qc HR1) HC1.out A4.out).mono ?_);rintro e w10 ⟨rfl,hb⟩;refine ⟨_,rfl,?_⟩;replace BK619:=qK BK619 hb;replace HB:=zA (zH qb hb);clear hb;obtain ⟨hcz11_0,hcz11_1⟩:=q2 BK619;have hfz11_0:=zJ BK619.out)|((with_reducible refine zU (f:=65) rfl ?_);refine gL (some 23) Tryz.func65 #[.agg #[.slice A0_0 l0_0.length c0_0,.slice A0_1 l0_1.length c0_1],.int .i64 a2] ?_;(with_reducible refine (zAR.calls k _ _ l0_0 _ _ l0_1 a2 t621 t624 _ (qc HR0_0) HC0_0.out (qc HR0_1) HC0_1.out A6.out).mono ?_);rintro e w12 ⟨v622,rfl,ho0,hb⟩;refine ⟨_,rfl,?_⟩;have HO623:=zA (Kd.R_lower ho0 qs);replace BK619:=qK BK619 hb;replace HB:=zA (zH qb hb);clear ho0 hb));go_loopg [10,11] k (fun kq v10 v11 w'=>∃ (x10_1:List Bool) (x11_1:Int),v11 = .int .i64 x11_1∧Aside0 (zAd.l0 kq l1 t621 x10_1 x11_1 = some (r1,r2))∧Aside0 (kq ≤ k)∧Aside0 (Kd.R (Kd.int .i64) 3 w' w.heap.size (fun _=>True) v622 t621)∧Aside0 (Kd.R Kd.bool 4 w' w.heap.size (fun _=>True) v10 x10_1)∧Aside0 (w'.heap[gb619]? = some (.cells #[(.slice A0_0 l0_0.length c0_0),(.slice A0_1 l0_1.length c0_1)] 25 (0,0)))∧Aside0 (Below w.heap.size w w'))
   case atStart=>exact ⟨(([]:List Bool)),(0),qr,H',⟨Nat.le_refl _⟩,⟨qR HO623⟩,⟨ql⟩,⟨qk BK619⟩,⟨qb⟩⟩
   case round =>
    clear H';obtain ⟨x10_1,x11_1,rfl,HA,HK1,HO_9,HO_10,BK619,HB⟩:=hrel;cases gk with
    | zero=>exact absurd HA.out (by simp [zAd.l0])
    | succ k1 =>
     have H:=HA.out;clear HA;simp only [zAd.l0] at H;rcases qj H with ⟨c13b0,H⟩|⟨c13b0,H⟩
     ·rcases qj H with ⟨c14b0,H⟩|⟨c14,H⟩
      ·replace H:=zb.mp H;obtain ⟨⟨t626,t627⟩,A150,H⟩:=H;(try dsimp only at H);have A15:=zA A150;clear A150;rcases qE H with ⟨c16b0,c16b1,H⟩|⟨c16,c16b0,c16b1,H⟩
       ·by_cases c17:x10_1.length < 140737488355328
        ·rw [if_pos c17] at H;have LMc17:=zA c17;clear c17;generalize hy628:(x10_1 ++ [(t626 == 1)]) = y628 at H;replace hy628:=hy628.symm
         have Ny628:=zA hy628;clear hy628;have H':=zA H;clear H;have p625:0 ≤ (x11_1:Int):=qd;have q625:x11_1 < (l1.length:Int):=qd;obtain ⟨ad625,A625_0,c625_0,e625,hx625_0,hl625_0,hi625_0⟩:=zBW HR1.out x11_1 p625 q625;cases e625;replace hx625_0:=qy HB hx625_0;have HR625_0:=zA hi625_0;have HC625_0:=zA hl625_0;clear hi625_0 hl625_0;replace p625:=qT p625;replace q625:=qT q625;obtain ⟨Ao18,co18,eo18⟩:=Kd.R_slice HO_9.out;subst eo18;go_wp2_with (first|((with_reducible refine zU (f:=66) rfl ?_);refine gL (some 41) Tryz.func66 #[.slice A625_0 (zBB l1 x11_1).length c625_0,.slice Ao18 t621.length co18] ?_;(with_reducible refine (zAW.calls k1 _ _ (zBB l1 x11_1) _ _ t621 t626 t627 _ (qc HR625_0) HC625_0.out (qu (Kd.R_reads' HO_9.out).2.2) ((Kd.R_reads' HO_9.out).2.1) A15.out).mono ?_);rintro e w19 ⟨rfl,hb⟩;refine ⟨_,rfl,?_⟩;replace HO_9:=zA (Kd.R_below (qR HO_9) hb);replace HO_10:=zA (Kd.R_below (qR HO_10) hb);replace BK619:=qK BK619 hb;replace HB:=zA (zH qb hb);clear hb)|((with_reducible refine gate_builtin (b:=.append) (xs:=#[.tmp 44,.tmp 51]) rfl ?_);at_builtin;refine Kd.R_append Kd.bool (w0:=w) w.heap.size rfl (.tmp 44) (.tmp 51) 55 4 (.bool false) 1 rfl Tryz.underlying55 info4 rfl (by decide) (by omega) u10 x10_1 (t626 == 1) [.bool (t626 == 1)] (fun _=>True) (fun _=>False) rfl rfl rfl (fun _ hk=>hk.elim) (fun _ _=>trivial) (qR HO_10) qb qs (qo LMc17) ?_;intro v629 w20 ho hb hg hat;rw [← Ny628.out] at ho;replace HO_9:=zA (Kd.R_over' (qR HO_9) (Kd.R_typed (qR HO_10)) (by decide) hg);replace BK619:=zA (blk_grown (g:=gb619) (o:=.cells #[.slice A0_0 l0_0.length c0_0,.slice A0_1 l0_1.length c0_1] 25 (0,0)) (qk BK619) hg (Kd.R_ne HO_10.out BK619.out (by decide)));replace HB:=zA (hb);have HO630:=zA (ho);clear HO_10;clear ho hb hg hat));go_roundg k1
         case measure=>have:=HK1.out;omega
         case rel=>exact ⟨(y628),(wrap64 (x11_1 + 1)),qr,H',⟨qo HK1⟩,⟨qR HO_9⟩,⟨qR HO630⟩,⟨qk BK619⟩,⟨qb⟩⟩
        ·rw [if_neg c17] at H;nomatch H
       ·by_cases c21:x10_1.length < 140737488355328
        ·rw [if_pos c21] at H;have LMc21:=zA c21;clear c21;generalize hy631:(x10_1 ++ [false]) = y631 at H;replace hy631:=hy631.symm
         have Ny631:=zA hy631;clear hy631;have H':=zA H;clear H;have p625:0 ≤ (x11_1:Int):=qd;have q625:x11_1 < (l1.length:Int):=qd;obtain ⟨ad625,A625_0,c625_0,e625,hx625_0,hl625_0,hi625_0⟩:=zBW HR1.out x11_1 p625 q625;cases e625;replace hx625_0:=qy HB hx625_0;have HR625_0:=zA hi625_0;have HC625_0:=zA hl625_0;clear hi625_0 hl625_0;replace p625:=qT p625;replace q625:=qT q625;obtain ⟨Ao22,co22,eo22⟩:=Kd.R_slice HO_9.out;subst eo22;go_wp2_with (first|((with_reducible refine zU (f:=66) rfl ?_);refine gL (some 41) Tryz.func66 #[.slice A625_0 (zBB l1 x11_1).length c625_0,.slice Ao22 t621.length co22] ?_;(with_reducible refine (zAW.calls k1 _ _ (zBB l1 x11_1) _ _ t621 t626 t627 _ (qc HR625_0) HC625_0.out (qu (Kd.R_reads' HO_9.out).2.2) ((Kd.R_reads' HO_9.out).2.1) A15.out).mono ?_);rintro e w23 ⟨rfl,hb⟩;refine ⟨_,rfl,?_⟩;replace HO_9:=zA (Kd.R_below (qR HO_9) hb);replace HO_10:=zA (Kd.R_below (qR HO_10) hb);replace BK619:=qK BK619 hb;replace HB:=zA (zH qb hb);clear hb)|((with_reducible refine gate_builtin (b:=.append) (xs:=#[.tmp 44,.tmp 51]) rfl ?_);at_builtin;refine Kd.R_append Kd.bool (w0:=w) w.heap.size rfl (.tmp 44) (.tmp 51) 55 4 (.bool false) 1 rfl Tryz.underlying55 info4 rfl (by decide) (by omega) u10 x10_1 false [.bool false] (fun _=>True) (fun _=>False) rfl rfl rfl (fun _ hk=>hk.elim) (fun _ _=>trivial) (qR HO_10) qb qs (qo LMc21) ?_;intro v632 w24 ho hb hg hat;rw [← Ny631.out] at ho;replace HO_9:=zA (Kd.R_over' (qR HO_9) (Kd.R_typed (qR HO_10)) (by decide) hg);replace BK619:=zA (blk_grown (g:=gb619) (o:=.cells #[.slice A0_0 l0_0.length c0_0,.slice A0_1 l0_1.length c0_1] 25 (0,0)) (qk BK619) hg (Kd.R_ne HO_10.out BK619.out (by decide)));replace HB:=zA (hb);have HO633:=zA (ho);clear HO_10;clear ho hb hg hat));go_roundg k1
         case measure=>have:=HK1.out;omega
         case rel=>exact ⟨(y631),(wrap64 (x11_1 + 1)),qr,H',⟨qo HK1⟩,⟨qR HO_9⟩,⟨qR HO633⟩,⟨qk BK619⟩,⟨qb⟩⟩
        ·rw [if_neg c21] at H;nomatch H
      ·nomatch H
     ·obtain ⟨rfl,rfl⟩:=qP H;go_wp2;go_ret2;exact ⟨_,qe,qR HO_10,qb⟩
  ·obtain ⟨rfl,rfl⟩:=qP H;go_enter Tryz.func30,Tryz.ntmps30;go_wp2_with (first|((with_reducible refine zV (N:=3) rfl ?_);refine bQ 3 (cs:=#[.slice A0_0 l0_0.length c0_0,.slice A0_1 l0_1.length c0_1]) (t:=25) ?_;intro gb619 hg w25 BK619 hb;have GW619:=zA (qg hg);replace HB:=zA (zH qb hb);clear hb hg;obtain ⟨hcz26_0,hcz26_1⟩:=q2 BK619;have hfz26_0:=zJ BK619.out)|((with_reducible refine zU (f:=61) rfl ?_);refine gL (some 16) Tryz.func61 #[.agg #[.slice A0_0 l0_0.length c0_0,.slice A0_1 l0_1.length c0_1],.slice A1 l1.length c1] ?_;(with_reducible refine (zAC.calls k _ _ l0_0 _ _ l0_1 _ _ l1 t620 _ (qc HR0_0) HC0_0.out (qc HR0_1) HC0_1.out (qc HR1) HC1.out A4.out).mono ?_);rintro e w27 ⟨rfl,hb⟩;refine ⟨_,rfl,?_⟩;replace BK619:=qK BK619 hb;replace HB:=zA (zH qb hb);clear hb;obtain ⟨hcz28_0,hcz28_1⟩:=q2 BK619;have hfz28_0:=zJ BK619.out)|((with_reducible refine zU (f:=65) rfl ?_);refine gL (some 23) Tryz.func65 #[.agg #[.slice A0_0 l0_0.length c0_0,.slice A0_1 l0_1.length c0_1],.int .i64 a2] ?_;(with_reducible refine (zAR.calls k _ _ l0_0 _ _ l0_1 a2 t621 t624 _ (qc HR0_0) HC0_0.out (qc HR0_1) HC0_1.out A6.out).mono ?_);rintro e w29 ⟨v622,rfl,ho0,hb⟩;refine ⟨_,rfl,?_⟩;have HO623:=zA (Kd.R_lower ho0 qs);replace BK619:=qK BK619 hb;replace HB:=zA (zH qb hb);clear ho0 hb));go_ret2;exact ⟨_,qe,ql,qb⟩
 ·obtain ⟨rfl,rfl⟩:=qP H;go_enter Tryz.func30,Tryz.ntmps30;go_wp2_with (first|((with_reducible refine zV (N:=3) rfl ?_);refine bQ 3 (cs:=#[.slice A0_0 l0_0.length c0_0,.slice A0_1 l0_1.length c0_1]) (t:=25) ?_;intro gb619 hg w30 BK619 hb;have GW619:=zA (qg hg);replace HB:=zA (zH qb hb);clear hb hg;obtain ⟨hcz31_0,hcz31_1⟩:=q2 BK619;have hfz31_0:=zJ BK619.out)|((with_reducible refine zU (f:=61) rfl ?_);refine gL (some 16) Tryz.func61 #[.agg #[.slice A0_0 l0_0.length c0_0,.slice A0_1 l0_1.length c0_1],.slice A1 l1.length c1] ?_;(with_reducible refine (zAC.calls k _ _ l0_0 _ _ l0_1 _ _ l1 t620 _ (qc HR0_0) HC0_0.out (qc HR0_1) HC0_1.out (qc HR1) HC1.out A4.out).mono ?_);rintro e w32 ⟨rfl,hb⟩;refine ⟨_,rfl,?_⟩;replace BK619:=qK BK619 hb;replace HB:=zA (zH qb hb);clear hb));go_ret2;exact ⟨_,qe,ql,qb⟩
end Go.Proofs.YtgdijfhdpgdanaaGreatDoor.B
