import Derived.Test.YthffpjkkmkjplaaDoorKProductBeginsG9
import Derived.Test.YthffpjkkmkjplaaDoorKProductBeginsG14
import Derived.Test.YthffpjkkmkjplaaDoorKProductBeginsG12
namespace Go.Proofs.YthffpjkkmkjplaaDoor.S
open Go.Proofs.YthffpjkkmkjplaaDoor.Al
open Option renaming bind_eq_some_iff → zb
open Go.Proofs.YthffpjkkmkjplaaDoorW.PrintWords renaming below_step → zH, blk_frozen → zJ, blk_alloc → zK, blk_drewN → zL, blk_drew → zM, blk_below → zN, blk_put → zO, Kd.C_below → zT, gate_callee → zU, gate_dst → zV
open Go.Proofs.YthffpjkkmkjplaaDoor.Sq
open Go.RowKit Go.Proofs.YthffpjkkmkjplaaDoorW.PrintWords Go.Proofs.YthffpjkkmkjplaaDoorW.PrintLast Go.Proofs.YthffpjkkmkjplaaDoorW.PrintMore
attribute [local go_sem] max2_int min2_int max_two min_two max_three min_three max_four min_four
set_option linter.unusedVariables false
set_option linter.unusedSimpArgs false
def model_Check.l0:Nat → List (S93) → Int → Int → List (S86) → List (S93) → Option (Int)
 | 0,_,_,_,_,_=>none
 | k + 1,x18,x19,x20,x139000,x139001=>if x20 < x19 then (if 0 ≤ x20 then (if x20 < (x18.length:Int) then ((model_rule.f k ((rd_T93 x18 x20).f0) ((rd_T93 x18 x20).f1) (x139000.length:Int)).bind fun t142=>(if t142 = 0 then (model_Check.l0 k x18 x19 (wrap64 (x20 + 1)) x139000 x139001) else (some t142))) else (none)) else (none)) else (some 0)
def model_Check.f (k:Nat) (l0_0:List (S86)) (l0_1:List (S93)):Option (Int):=(model_variables.f l0_0).bind fun t139=>(if t139 = 0 then (if (l0_1.length:Int) > 12 then (some 1) else (model_Check.l0 k l0_1 (l0_1.length:Int) 0 l0_0 l0_1)) else (some t139))
theorem model_Check.mono_l:∀ k,(∀ y0 y1 y2 y3 y4,LeO (model_Check.l0 k y0 y1 y2 y3 y4) (model_Check.l0 (k + 1) y0 y1 y2 y3 y4))
 | 0=>fun _ _ _ _ _ r h=>by simp [model_Check.l0] at h
 | k + 1=>by
  have ih0:=model_Check.mono_l k
  ·intro y0 y1 y2 y3 y4
   unfold model_Check.l0
   exact qM @model_rule.mono
theorem model_Check.mono:∀ a0 a1 k,LeO (model_Check.f k a0 a1) (model_Check.f (k + 1) a0 a1):=by
 intro a0 a1 k
 have ih0:=model_Check.mono_l k
 unfold model_Check.f
 exact qM @model_rule.mono
set_option maxHeartbeats 8000000 in
set_option maxRecDepth 100000 in
theorem model_Check.calls (k:Nat) (A0_0:Option Addr) (c0_0:Nat) (l0_0:List (S86)) (A0_1:Option Addr) (c0_1:Nat) (l0_1:List (S93)) (r:Int) (w:World) (hr0_0:Kd.C k86 w A0_0 l0_0.length l0_0) (hc0_0:l0_0.length ≤ c0_0) (hr0_1:Kd.C k93 w A0_1 l0_1.length l0_1) (hc0_1:l0_1.length ≤ c0_1) (hL:LaidG w) (h:model_Check.f k l0_0 l0_1 = some r) :
  Calls Tryd.prog 78 #[.agg #[.slice A0_0 l0_0.length c0_0,.slice A0_1 l0_1.length c0_1]] w fun e w'=>e = .returned (.int .i64 r)∧Below w.heap.size w w':=by
 have HLd:=zA hL
 clear hL
 have hu44:=Tryd.underlying44
 have hu93:=Tryd.underlying93
 have HR0_0:=zA hr0_0
 have HC0_0:=zA hc0_0
 clear hr0_0 hc0_0
 have HR0_1:=zA hr0_1
 have HC0_1:=zA hc0_1
 clear hr0_1 hc0_1
 have HB:=zA (Below.refl w.heap.size w)
 have H:((model_variables.f l0_0).bind fun t139=>(if t139 = 0 then (if (l0_1.length:Int) > 12 then (some 1) else (model_Check.l0 k l0_1 (l0_1.length:Int) 0 l0_0 l0_1)) else (some t139))) = some r:=h
 clear h
 replace H:=zb.mp H
 obtain ⟨t139,A20,H⟩:=H
 replace H:(if t139 = 0 then (if (l0_1.length:Int) > 12 then (some 1) else (model_Check.l0 k l0_1 (l0_1.length:Int) 0 l0_0 l0_1)) else (some t139)) = some r:=H
 have A2:=zA A20
 clear A20
 by_cases c3:t139 = 0
 ·rw [if_pos c3] at H
  have c3b0:(t139 == 0) = true:=beq_iff_eq.mpr c3
  have c3b1:(t139 != 0) = false:=bne_eq_false_iff_eq.mpr c3
  clear c3
  by_cases c4:(l0_1.length:Int) > 12
  ·rw [if_pos c4] at H
   have c4b0:decide (12 < (l0_1.length:Int)) = true:=zQ c4
   have c4b1:decide (12 < l0_1.length) = true:=zQ (by omega)
   clear c4
   obtain rfl:=Option.some.inj H
   go_enter Tryd.func78,Tryd.ntmps78
   go_wp2_with (first|((with_reducible refine zV (N:=1) rfl ?_);refine bq 1 (cs:=#[.slice A0_0 l0_0.length c0_0,.slice A0_1 l0_1.length c0_1]) (t:=44) ?_;intro gb138 hg w5 hbox hb;have BK138:=zA (hbox);have GW138:=zA (qg hg);have GE138:=zA (qg hg);replace HB:=zA (zH qb hb);clear hb hbox hg;have hcz6_0:=qx BK138 0;have hcz6_1:=qx BK138 1;have hfz6_0:=zJ BK138.out 0;have hfz6_1:=zJ BK138.out 1)|((with_reducible refine zU (f:=92) rfl ?_);refine gL (some 9) Tryd.func92 #[.slice A0_0 l0_0.length c0_0] ?_;(with_reducible refine (model_variables.calls _ _ l0_0 t139 _ (qc HR0_0) HC0_0.out A2.out).mono ?_);rintro e w7 ⟨rfl,hb⟩;refine ⟨_,rfl,?_⟩;replace BK138:=qK BK138 hb;replace HB:=zA (zH qb hb);clear hb;have hcz8_0:=qx BK138 0;have hcz8_1:=qx BK138 1;have hfz8_0:=zJ BK138.out 0;have hfz8_1:=zJ BK138.out 1))
   go_ret
   exact ⟨qe,qb⟩
  ·rw [if_neg c4] at H
   have c4b0:decide (12 < (l0_1.length:Int)) = false:=zR c4
   have c4b1:decide (12 < l0_1.length) = false:=zR (by omega)
   clear c4
   have H':=zA H
   clear H
   go_enter Tryd.func78,Tryd.ntmps78
   go_wp2_with (first|((with_reducible refine zV (N:=1) rfl ?_);refine bq 1 (cs:=#[.slice A0_0 l0_0.length c0_0,.slice A0_1 l0_1.length c0_1]) (t:=44) ?_;intro gb138 hg w9 hbox hb;have BK138:=zA (hbox);have GW138:=zA (qg hg);have GE138:=zA (qg hg);replace HB:=zA (zH qb hb);clear hb hbox hg;have hcz10_0:=qx BK138 0;have hcz10_1:=qx BK138 1;have hfz10_0:=zJ BK138.out 0;have hfz10_1:=zJ BK138.out 1)|((with_reducible refine zU (f:=92) rfl ?_);refine gL (some 9) Tryd.func92 #[.slice A0_0 l0_0.length c0_0] ?_;(with_reducible refine (model_variables.calls _ _ l0_0 t139 _ (qc HR0_0) HC0_0.out A2.out).mono ?_);rintro e w11 ⟨rfl,hb⟩;refine ⟨_,rfl,?_⟩;replace BK138:=qK BK138 hb;replace HB:=zA (zH qb hb);clear hb;have hcz12_0:=qx BK138 0;have hcz12_1:=qx BK138 1;have hfz12_0:=zJ BK138.out 0;have hfz12_1:=zJ BK138.out 1))
   go_loopg [20] k (fun kq v20 w'=>∃ (x20_1:Int),v20 = .int .i64 x20_1∧Aside0 (model_Check.l0 kq l0_1 (l0_1.length:Int) x20_1 l0_0 l0_1 = some r)∧Aside0 (kq ≤ k)∧Aside0 (w'.heap[gb138]? = some (.cells #[(.slice A0_0 l0_0.length c0_0),(.slice A0_1 l0_1.length c0_1)] 44 (0,0)))∧Aside0 (Below w.heap.size w w'))
   case atStart=>exact ⟨(0),qr,H',⟨Nat.le_refl _⟩,⟨qk BK138⟩,⟨qb⟩⟩
   case round =>
    clear H'
    try clear p2
    try clear c3
    try clear c3b0
    try clear c3b1
    try clear c4
    try clear c4b0
    try clear c4b1
    try clear c7
    try clear c9
    try clear hcz10_0
    try clear hcz10_1
    try clear hcz12_0
    try clear hcz12_1
    try clear hcz6_0
    try clear hcz6_1
    try clear hcz8_0
    try clear hcz8_1
    try clear hfz10_0
    try clear hfz10_1
    try clear hfz12_0
    try clear hfz12_1
    try clear hfz6_0
    try clear hfz6_1
    try clear hfz8_0
    try clear hfz8_1
    obtain ⟨x20_1,rfl,HA,HK1,BK138,HB⟩:=hrel
    cases gk with
    | zero=>exact absurd HA.out (by simp [model_Check.l0])
    | succ k1 =>
     have H:=HA.out
     clear HA
     simp only [model_Check.l0] at H
     rcases qj H with ⟨c13b0,H⟩|⟨c13b0,H⟩
     ·rcases qj H with ⟨c14b0,H⟩|⟨c14,H⟩
      ·rcases qj H with ⟨c15b0,H⟩|⟨c15,H⟩
       ·replace H:=zb.mp H
        obtain ⟨t142,A160,H⟩:=H
        replace H:(if t142 = 0 then (model_Check.l0 k1 l0_1 (l0_1.length:Int) (wrap64 (x20_1 + 1)) l0_0 l0_1) else (some t142)) = some r:=H
        have A16:=zA A160
        clear A160
        by_cases c17:t142 = 0
        ·rw [if_pos c17] at H
         have c17b0:(t142 == 0) = true:=beq_iff_eq.mpr c17
         have c17b1:(t142 != 0) = false:=bne_eq_false_iff_eq.mpr c17
         clear c17
         have H':=zA H
         clear H
         have p140:0 ≤ (x20_1:Int):=qd
         have q140:x20_1 < (l0_1.length:Int):=qd
         obtain ⟨ad140,A140_0,c140_0,A140_1,c140_1,e140,hx140_0,hx140_1,hl140_0,hi140_0,hl140_1,hi140_1⟩:=at_T93 HR0_1.out x20_1 p140 q140
         cases e140
         replace hx140_0:=qy HB hx140_0
         replace hx140_1:=qy HB hx140_1
         have HR140_0:=zA hi140_0
         have HC140_0:=zA hl140_0
         clear hi140_0 hl140_0
         have HR140_1:=zA hi140_1
         have HC140_1:=zA hl140_1
         clear hi140_1 hl140_1
         replace p140:=eq_true p140
         replace q140:=eq_true q140
         go_wp2_with (first|((with_reducible refine zV (N:=5) rfl ?_);refine bq 5 (cs:=#[.slice none 0 0,.slice none 0 0]) (t:=93) ?_;intro gb141 hg w18 hbox hb;have BK141:=zA (hbox);have GW141:=zA (qg hg);have GE141:=zA (qg hg);replace HB:=zA (zH qb hb);have NB138_141:=zA ((by rw [hg];exact Nat.ne_of_lt (blk_lt (g:=gb138) (o:=.cells #[.slice A0_0 l0_0.length c0_0,.slice (some ad140) l0_1.length c0_1] 44 (0,0)) (qk BK138)):gb138 ≠ gb141));have NB141_138:=zA ((by rw [hg];exact Nat.ne_of_gt (blk_lt (g:=gb138) (o:=.cells #[.slice A0_0 l0_0.length c0_0,.slice (some ad140) l0_1.length c0_1] 44 (0,0)) (qk BK138)):gb141 ≠ gb138));replace BK138:=qK BK138 hb;clear hb hbox hg;have hnb19:=NB141_138.out;have hnc19:=NB138_141.out;have hcz20_0:=qx BK141 0;have hcz20_1:=qx BK141 1;have hfz20_0:=zJ BK141.out 0;have hfz20_1:=zJ BK141.out 1;have hcz21_0:=qx BK138 0;have hcz21_1:=qx BK138 1;have hfz21_0:=zJ BK138.out 0;have hfz21_1:=zJ BK138.out 1)|((with_reducible refine zU (f:=93) rfl ?_);refine gL (some 28) Tryd.func93 #[.agg #[.slice A140_0 ((rd_T93 l0_1 x20_1).f0).length c140_0,.slice A140_1 ((rd_T93 l0_1 x20_1).f1).length c140_1],.int .i64 (l0_0.length:Int)] ?_;(with_reducible refine (model_rule.calls k1 _ _ ((rd_T93 l0_1 x20_1).f0) _ _ ((rd_T93 l0_1 x20_1).f1) (l0_0.length:Int) t142 _ (zT HR140_0.out qb) HC140_0.out (zT HR140_1.out qb) HC140_1.out qD A16.out).mono ?_);rintro e w22 ⟨rfl,hb⟩;refine ⟨_,rfl,?_⟩;replace BK138:=zA (zN (g:=gb138) (o:=.cells #[.slice A0_0 l0_0.length c0_0,.slice (some ad140) l0_1.length c0_1] 44 (0,0)) (by (with_reducible repeat (first|refine zL ?_ _|refine zM ?_|refine zK ?_ _));refine blk_far ?_ NB138_141.out _;(with_reducible repeat (first|refine zL ?_ _|refine zM ?_|refine zK ?_ _));refine blk_far ?_ NB138_141.out _;(with_reducible repeat (first|refine zL ?_ _|refine zM ?_|refine zK ?_ _));exact BK138.out) hb);replace BK141:=zA (zN (g:=gb141) (o:=.cells #[.slice A140_0 ((rd_T93 l0_1 x20_1).f0).length c140_0,.slice A140_1 ((rd_T93 l0_1 x20_1).f1).length c140_1] 93 (0,0)) (by (with_reducible repeat (first|refine zL ?_ _|refine zM ?_|refine zK ?_ _));refine zO (cs:=#[.slice A140_0 ((rd_T93 l0_1 x20_1).f0).length c140_0,.slice none 0 0]) ?_ 1 _ rfl;(with_reducible repeat (first|refine zL ?_ _|refine zM ?_|refine zK ?_ _));refine zO (cs:=#[.slice none 0 0,.slice none 0 0]) ?_ 0 _ rfl;(with_reducible repeat (first|refine zL ?_ _|refine zM ?_|refine zK ?_ _));exact BK141.out) hb);replace HB:=zA (zH qb hb);clear hb))
         go_roundg k1
         case measure=>have:=HK1.out;omega
         case rel=>exact ⟨(wrap64 (x20_1 + 1)),qr,H',⟨qo HK1⟩,⟨qk BK138⟩,⟨qb⟩⟩
        ·rw [if_neg c17] at H
         have c17b0:(t142 == 0) = false:=beq_eq_false_iff_ne.mpr c17
         have c17b1:(t142 != 0) = true:=bne_iff_ne.mpr c17
         obtain rfl:=Option.some.inj H
         have p140:0 ≤ (x20_1:Int):=qd
         have q140:x20_1 < (l0_1.length:Int):=qd
         obtain ⟨ad140,A140_0,c140_0,A140_1,c140_1,e140,hx140_0,hx140_1,hl140_0,hi140_0,hl140_1,hi140_1⟩:=at_T93 HR0_1.out x20_1 p140 q140
         cases e140
         replace hx140_0:=qy HB hx140_0
         replace hx140_1:=qy HB hx140_1
         have HR140_0:=zA hi140_0
         have HC140_0:=zA hl140_0
         clear hi140_0 hl140_0
         have HR140_1:=zA hi140_1
         have HC140_1:=zA hl140_1
         clear hi140_1 hl140_1
         replace p140:=eq_true p140
         replace q140:=eq_true q140
         go_wp2_with (first|((with_reducible refine zV (N:=5) rfl ?_);refine bq 5 (cs:=#[.slice none 0 0,.slice none 0 0]) (t:=93) ?_;intro gb141 hg w23 hbox hb;have BK141:=zA (hbox);have GW141:=zA (qg hg);have GE141:=zA (qg hg);replace HB:=zA (zH qb hb);have NB138_141:=zA ((by rw [hg];exact Nat.ne_of_lt (blk_lt (g:=gb138) (o:=.cells #[.slice A0_0 l0_0.length c0_0,.slice (some ad140) l0_1.length c0_1] 44 (0,0)) (qk BK138)):gb138 ≠ gb141));have NB141_138:=zA ((by rw [hg];exact Nat.ne_of_gt (blk_lt (g:=gb138) (o:=.cells #[.slice A0_0 l0_0.length c0_0,.slice (some ad140) l0_1.length c0_1] 44 (0,0)) (qk BK138)):gb141 ≠ gb138));replace BK138:=qK BK138 hb;clear hb hbox hg;have hnb24:=NB141_138.out;have hnc24:=NB138_141.out;have hcz25_0:=qx BK141 0;have hcz25_1:=qx BK141 1;have hfz25_0:=zJ BK141.out 0;have hfz25_1:=zJ BK141.out 1;have hcz26_0:=qx BK138 0;have hcz26_1:=qx BK138 1;have hfz26_0:=zJ BK138.out 0;have hfz26_1:=zJ BK138.out 1)|((with_reducible refine zU (f:=93) rfl ?_);refine gL (some 28) Tryd.func93 #[.agg #[.slice A140_0 ((rd_T93 l0_1 x20_1).f0).length c140_0,.slice A140_1 ((rd_T93 l0_1 x20_1).f1).length c140_1],.int .i64 (l0_0.length:Int)] ?_;(with_reducible refine (model_rule.calls k1 _ _ ((rd_T93 l0_1 x20_1).f0) _ _ ((rd_T93 l0_1 x20_1).f1) (l0_0.length:Int) t142 _ (zT HR140_0.out qb) HC140_0.out (zT HR140_1.out qb) HC140_1.out qD A16.out).mono ?_);rintro e w27 ⟨rfl,hb⟩;refine ⟨_,rfl,?_⟩;replace BK138:=zA (zN (g:=gb138) (o:=.cells #[.slice A0_0 l0_0.length c0_0,.slice (some ad140) l0_1.length c0_1] 44 (0,0)) (by (with_reducible repeat (first|refine zL ?_ _|refine zM ?_|refine zK ?_ _));refine blk_far ?_ NB138_141.out _;(with_reducible repeat (first|refine zL ?_ _|refine zM ?_|refine zK ?_ _));refine blk_far ?_ NB138_141.out _;(with_reducible repeat (first|refine zL ?_ _|refine zM ?_|refine zK ?_ _));exact BK138.out) hb);replace BK141:=zA (zN (g:=gb141) (o:=.cells #[.slice A140_0 ((rd_T93 l0_1 x20_1).f0).length c140_0,.slice A140_1 ((rd_T93 l0_1 x20_1).f1).length c140_1] 93 (0,0)) (by (with_reducible repeat (first|refine zL ?_ _|refine zM ?_|refine zK ?_ _));refine zO (cs:=#[.slice A140_0 ((rd_T93 l0_1 x20_1).f0).length c140_0,.slice none 0 0]) ?_ 1 _ rfl;(with_reducible repeat (first|refine zL ?_ _|refine zM ?_|refine zK ?_ _));refine zO (cs:=#[.slice none 0 0,.slice none 0 0]) ?_ 0 _ rfl;(with_reducible repeat (first|refine zL ?_ _|refine zM ?_|refine zK ?_ _));exact BK141.out) hb);replace HB:=zA (zH qb hb);clear hb))
         go_ret
         exact ⟨qe,qb⟩
       ·exact absurd H (by simp)
      ·exact absurd H (by simp)
     ·obtain rfl:=Option.some.inj H
      go_wp2
      go_ret
      exact ⟨qe,qb⟩
 ·rw [if_neg c3] at H
  have c3b0:(t139 == 0) = false:=beq_eq_false_iff_ne.mpr c3
  have c3b1:(t139 != 0) = true:=bne_iff_ne.mpr c3
  obtain rfl:=Option.some.inj H
  go_enter Tryd.func78,Tryd.ntmps78
  go_wp2_with (first|((with_reducible refine zV (N:=1) rfl ?_);refine bq 1 (cs:=#[.slice A0_0 l0_0.length c0_0,.slice A0_1 l0_1.length c0_1]) (t:=44) ?_;intro gb138 hg w28 hbox hb;have BK138:=zA (hbox);have GW138:=zA (qg hg);have GE138:=zA (qg hg);replace HB:=zA (zH qb hb);clear hb hbox hg;have hcz29_0:=qx BK138 0;have hcz29_1:=qx BK138 1;have hfz29_0:=zJ BK138.out 0;have hfz29_1:=zJ BK138.out 1)|((with_reducible refine zU (f:=92) rfl ?_);refine gL (some 9) Tryd.func92 #[.slice A0_0 l0_0.length c0_0] ?_;(with_reducible refine (model_variables.calls _ _ l0_0 t139 _ (qc HR0_0) HC0_0.out A2.out).mono ?_);rintro e w30 ⟨rfl,hb⟩;refine ⟨_,rfl,?_⟩;replace BK138:=qK BK138 hb;replace HB:=zA (zH qb hb);clear hb))
  go_ret
  exact ⟨qe,qb⟩
end Go.Proofs.YthffpjkkmkjplaaDoor.S
namespace Go.Proofs.YthffpjkkmkjplaaDoor.S
open Go.Proofs.YthffpjkkmkjplaaDoor.Al
open Option renaming bind_eq_some_iff → zb
open Go.Proofs.YthffpjkkmkjplaaDoorW.PrintWords renaming below_step → zH, blk_frozen → zJ, gate_callee → zU, gate_dst → zV
open Go.Proofs.YthffpjkkmkjplaaDoor.Sq
open Go.RowKit Go.Proofs.YthffpjkkmkjplaaDoorW.PrintWords Go.Proofs.YthffpjkkmkjplaaDoorW.PrintLast Go.Proofs.YthffpjkkmkjplaaDoorW.PrintMore
attribute [local go_sem] max2_int min2_int max_two min_two max_three min_three max_four min_four
set_option linter.unusedVariables false
set_option linter.unusedSimpArgs false
def model_Props.l0:Nat → List (List (S65)) → Int → Int → List (S86) → List (S93) → Option (Int)
 | 0,_,_,_,_,_=>none
 | k + 1,x17,x18,x19,x144000,x144001=>if x19 < x18 then (if 0 ≤ x19 then (if x19 < (x17.length:Int) then ((model_kind.f k (rd_L4 x17 x19) (x144000.length:Int) true).bind fun t146=>(if t146 = 0 then (model_Props.l0 k x17 x18 (wrap64 (x19 + 1)) x144000 x144001) else (some t146))) else (none)) else (none)) else (some 0)
def model_Props.f (k:Nat) (l0_0:List (S86)) (l0_1:List (S93)) (l1:List (List (S65))):Option (Int):=(model_Check.f k l0_0 l0_1).bind fun t144=>(if t144 = 0 then (if (l1.length:Int) > 6 then (some 1) else (model_Props.l0 k l1 (l1.length:Int) 0 l0_0 l0_1)) else (some t144))
theorem model_Props.mono_l:∀ k,(∀ y0 y1 y2 y3 y4,LeO (model_Props.l0 k y0 y1 y2 y3 y4) (model_Props.l0 (k + 1) y0 y1 y2 y3 y4))
 | 0=>fun _ _ _ _ _ r h=>by simp [model_Props.l0] at h
 | k + 1=>by
  have ih0:=model_Props.mono_l k
  ·intro y0 y1 y2 y3 y4
   unfold model_Props.l0
   exact qM (And.intro @model_Check.mono @model_kind.mono)
theorem model_Props.mono:∀ a0 a1 a2 k,LeO (model_Props.f k a0 a1 a2) (model_Props.f (k + 1) a0 a1 a2):=by
 intro a0 a1 a2 k
 have ih0:=model_Props.mono_l k
 unfold model_Props.f
 exact qM (And.intro @model_Check.mono @model_kind.mono)
set_option maxHeartbeats 8000000 in
set_option maxRecDepth 100000 in
theorem model_Props.calls (k:Nat) (A0_0:Option Addr) (c0_0:Nat) (l0_0:List (S86)) (A0_1:Option Addr) (c0_1:Nat) (l0_1:List (S93)) (A1:Option Addr) (c1:Nat) (l1:List (List (S65))) (r:Int) (w:World) (hr0_0:Kd.C k86 w A0_0 l0_0.length l0_0) (hc0_0:l0_0.length ≤ c0_0) (hr0_1:Kd.C k93 w A0_1 l0_1.length l0_1) (hc0_1:l0_1.length ≤ c0_1) (hr1:Kd.C (Kd.slice 65 k65) w A1 l1.length l1) (hc1:l1.length ≤ c1) (hL:LaidG w) (h:model_Props.f k l0_0 l0_1 l1 = some r) :
  Calls Tryd.prog 51 #[.agg #[.slice A0_0 l0_0.length c0_0,.slice A0_1 l0_1.length c0_1],.slice A1 l1.length c1] w fun e w'=>e = .returned (.int .i64 r)∧Below w.heap.size w w':=by
 have HLd:=zA hL
 clear hL
 have hu44:=Tryd.underlying44
 have HR0_0:=zA hr0_0
 have HC0_0:=zA hc0_0
 clear hr0_0 hc0_0
 have HR0_1:=zA hr0_1
 have HC0_1:=zA hc0_1
 clear hr0_1 hc0_1
 have HR1:=zA hr1
 have HC1:=zA hc1
 clear hr1 hc1
 have HB:=zA (Below.refl w.heap.size w)
 have H:((model_Check.f k l0_0 l0_1).bind fun t144=>(if t144 = 0 then (if (l1.length:Int) > 6 then (some 1) else (model_Props.l0 k l1 (l1.length:Int) 0 l0_0 l0_1)) else (some t144))) = some r:=h
 clear h
 replace H:=zb.mp H
 obtain ⟨t144,A30,H⟩:=H
 replace H:(if t144 = 0 then (if (l1.length:Int) > 6 then (some 1) else (model_Props.l0 k l1 (l1.length:Int) 0 l0_0 l0_1)) else (some t144)) = some r:=H
 have A3:=zA A30
 clear A30
 by_cases c4:t144 = 0
 ·rw [if_pos c4] at H
  have c4b0:(t144 == 0) = true:=beq_iff_eq.mpr c4
  have c4b1:(t144 != 0) = false:=bne_eq_false_iff_eq.mpr c4
  clear c4
  by_cases c5:(l1.length:Int) > 6
  ·rw [if_pos c5] at H
   have c5b0:decide (6 < (l1.length:Int)) = true:=zQ c5
   have c5b1:decide (6 < l1.length) = true:=zQ (by omega)
   clear c5
   obtain rfl:=Option.some.inj H
   go_enter Tryd.func51,Tryd.ntmps51
   go_wp2_with (first|((with_reducible refine zV (N:=2) rfl ?_);refine bq 2 (cs:=#[.slice A0_0 l0_0.length c0_0,.slice A0_1 l0_1.length c0_1]) (t:=44) ?_;intro gb143 hg w6 hbox hb;have BK143:=zA (hbox);have GW143:=zA (qg hg);have GE143:=zA (qg hg);replace HB:=zA (zH qb hb);clear hb hbox hg;have hcz7_0:=qx BK143 0;have hcz7_1:=qx BK143 1;have hfz7_0:=zJ BK143.out 0;have hfz7_1:=zJ BK143.out 1)|((with_reducible refine zU (f:=78) rfl ?_);refine gL (some 10) Tryd.func78 #[.agg #[.slice A0_0 l0_0.length c0_0,.slice A0_1 l0_1.length c0_1]] ?_;(with_reducible refine (model_Check.calls k _ _ l0_0 _ _ l0_1 t144 _ (qc HR0_0) HC0_0.out (qc HR0_1) HC0_1.out qD A3.out).mono ?_);rintro e w8 ⟨rfl,hb⟩;refine ⟨_,rfl,?_⟩;replace BK143:=qK BK143 hb;replace HB:=zA (zH qb hb);clear hb))
   go_ret
   exact ⟨qe,qb⟩
  ·rw [if_neg c5] at H
   have c5b0:decide (6 < (l1.length:Int)) = false:=zR c5
   have c5b1:decide (6 < l1.length) = false:=zR (by omega)
   clear c5
   have H':=zA H
   clear H
   go_enter Tryd.func51,Tryd.ntmps51
   go_wp2_with (first|((with_reducible refine zV (N:=2) rfl ?_);refine bq 2 (cs:=#[.slice A0_0 l0_0.length c0_0,.slice A0_1 l0_1.length c0_1]) (t:=44) ?_;intro gb143 hg w9 hbox hb;have BK143:=zA (hbox);have GW143:=zA (qg hg);have GE143:=zA (qg hg);replace HB:=zA (zH qb hb);clear hb hbox hg;have hcz10_0:=qx BK143 0;have hcz10_1:=qx BK143 1;have hfz10_0:=zJ BK143.out 0;have hfz10_1:=zJ BK143.out 1)|((with_reducible refine zU (f:=78) rfl ?_);refine gL (some 10) Tryd.func78 #[.agg #[.slice A0_0 l0_0.length c0_0,.slice A0_1 l0_1.length c0_1]] ?_;(with_reducible refine (model_Check.calls k _ _ l0_0 _ _ l0_1 t144 _ (qc HR0_0) HC0_0.out (qc HR0_1) HC0_1.out qD A3.out).mono ?_);rintro e w11 ⟨rfl,hb⟩;refine ⟨_,rfl,?_⟩;replace BK143:=qK BK143 hb;replace HB:=zA (zH qb hb);clear hb))
   go_loopg [19] k (fun kq v19 w'=>∃ (x19_1:Int),v19 = .int .i64 x19_1∧Aside0 (model_Props.l0 kq l1 (l1.length:Int) x19_1 l0_0 l0_1 = some r)∧Aside0 (kq ≤ k)∧Aside0 (w'.heap[gb143]? = some (.cells #[(.slice A0_0 l0_0.length c0_0),(.slice A0_1 l0_1.length c0_1)] 44 (0,0)))∧Aside0 (Below w.heap.size w w'))
   case atStart=>exact ⟨(0),qr,H',⟨Nat.le_refl _⟩,⟨qk BK143⟩,⟨qb⟩⟩
   case round =>
    clear H'
    try clear c1
    try clear p2
    try clear c4
    try clear c4b0
    try clear c4b1
    try clear c5
    try clear c5b0
    try clear c5b1
    try clear c7
    try clear hcz10_0
    try clear hcz10_1
    try clear hcz7_0
    try clear hcz7_1
    try clear hfz10_0
    try clear hfz10_1
    try clear hfz7_0
    try clear hfz7_1
    obtain ⟨x19_1,rfl,HA,HK1,BK143,HB⟩:=hrel
    cases gk with
    | zero=>exact absurd HA.out (by simp [model_Props.l0])
    | succ k1 =>
     have H:=HA.out
     clear HA
     simp only [model_Props.l0] at H
     rcases qj H with ⟨c12b0,H⟩|⟨c12b0,H⟩
     ·rcases qj H with ⟨c13b0,H⟩|⟨c13,H⟩
      ·rcases qj H with ⟨c14b0,H⟩|⟨c14,H⟩
       ·replace H:=zb.mp H
        obtain ⟨t146,A150,H⟩:=H
        replace H:(if t146 = 0 then (model_Props.l0 k1 l1 (l1.length:Int) (wrap64 (x19_1 + 1)) l0_0 l0_1) else (some t146)) = some r:=H
        have A15:=zA A150
        clear A150
        by_cases c16:t146 = 0
        ·rw [if_pos c16] at H
         have c16b0:(t146 == 0) = true:=beq_iff_eq.mpr c16
         have c16b1:(t146 != 0) = false:=bne_eq_false_iff_eq.mpr c16
         clear c16
         have H':=zA H
         clear H
         have p145:0 ≤ (x19_1:Int):=qd
         have q145:x19_1 < (l1.length:Int):=qd
         obtain ⟨ad145,A145_0,c145_0,e145,hx145_0,hl145_0,hi145_0⟩:=at_L4 HR1.out x19_1 p145 q145
         cases e145
         replace hx145_0:=qy HB hx145_0
         have HR145_0:=zA hi145_0
         have HC145_0:=zA hl145_0
         clear hi145_0 hl145_0
         replace p145:=eq_true p145
         replace q145:=eq_true q145
         have hcz17_0:=qx BK143 0
         have hcz17_1:=qx BK143 1
         have hfz17_0:=zJ BK143.out 0
         have hfz17_1:=zJ BK143.out 1
         go_wp2_with (first|((with_reducible refine zU (f:=79) rfl ?_);refine gL (some 27) Tryd.func79 #[.slice A145_0 (rd_L4 l1 x19_1).length c145_0,.int .i64 (l0_0.length:Int),.bool true] ?_;(with_reducible refine (model_kind.calls k1 _ _ (rd_L4 l1 x19_1) (l0_0.length:Int) true t146 _ (qc HR145_0) HC145_0.out qD A15.out).mono ?_);rintro e w18 ⟨rfl,hb⟩;refine ⟨_,rfl,?_⟩;replace BK143:=qK BK143 hb;replace HB:=zA (zH qb hb);clear hb))
         go_roundg k1
         case measure=>have:=HK1.out;omega
         case rel=>exact ⟨(wrap64 (x19_1 + 1)),qr,H',⟨qo HK1⟩,⟨qk BK143⟩,⟨qb⟩⟩
        ·rw [if_neg c16] at H
         have c16b0:(t146 == 0) = false:=beq_eq_false_iff_ne.mpr c16
         have c16b1:(t146 != 0) = true:=bne_iff_ne.mpr c16
         obtain rfl:=Option.some.inj H
         have p145:0 ≤ (x19_1:Int):=qd
         have q145:x19_1 < (l1.length:Int):=qd
         obtain ⟨ad145,A145_0,c145_0,e145,hx145_0,hl145_0,hi145_0⟩:=at_L4 HR1.out x19_1 p145 q145
         cases e145
         replace hx145_0:=qy HB hx145_0
         have HR145_0:=zA hi145_0
         have HC145_0:=zA hl145_0
         clear hi145_0 hl145_0
         replace p145:=eq_true p145
         replace q145:=eq_true q145
         have hcz19_0:=qx BK143 0
         have hcz19_1:=qx BK143 1
         have hfz19_0:=zJ BK143.out 0
         have hfz19_1:=zJ BK143.out 1
         go_wp2_with (first|((with_reducible refine zU (f:=79) rfl ?_);refine gL (some 27) Tryd.func79 #[.slice A145_0 (rd_L4 l1 x19_1).length c145_0,.int .i64 (l0_0.length:Int),.bool true] ?_;(with_reducible refine (model_kind.calls k1 _ _ (rd_L4 l1 x19_1) (l0_0.length:Int) true t146 _ (qc HR145_0) HC145_0.out qD A15.out).mono ?_);rintro e w20 ⟨rfl,hb⟩;refine ⟨_,rfl,?_⟩;replace BK143:=qK BK143 hb;replace HB:=zA (zH qb hb);clear hb))
         go_ret
         exact ⟨qe,qb⟩
       ·exact absurd H (by simp)
      ·exact absurd H (by simp)
     ·obtain rfl:=Option.some.inj H
      go_wp2
      go_ret
      exact ⟨qe,qb⟩
 ·rw [if_neg c4] at H
  have c4b0:(t144 == 0) = false:=beq_eq_false_iff_ne.mpr c4
  have c4b1:(t144 != 0) = true:=bne_iff_ne.mpr c4
  obtain rfl:=Option.some.inj H
  go_enter Tryd.func51,Tryd.ntmps51
  go_wp2_with (first|((with_reducible refine zV (N:=2) rfl ?_);refine bq 2 (cs:=#[.slice A0_0 l0_0.length c0_0,.slice A0_1 l0_1.length c0_1]) (t:=44) ?_;intro gb143 hg w21 hbox hb;have BK143:=zA (hbox);have GW143:=zA (qg hg);have GE143:=zA (qg hg);replace HB:=zA (zH qb hb);clear hb hbox hg;have hcz22_0:=qx BK143 0;have hcz22_1:=qx BK143 1;have hfz22_0:=zJ BK143.out 0;have hfz22_1:=zJ BK143.out 1)|((with_reducible refine zU (f:=78) rfl ?_);refine gL (some 10) Tryd.func78 #[.agg #[.slice A0_0 l0_0.length c0_0,.slice A0_1 l0_1.length c0_1]] ?_;(with_reducible refine (model_Check.calls k _ _ l0_0 _ _ l0_1 t144 _ (qc HR0_0) HC0_0.out (qc HR0_1) HC0_1.out qD A3.out).mono ?_);rintro e w23 ⟨rfl,hb⟩;refine ⟨_,rfl,?_⟩;replace BK143:=qK BK143 hb;replace HB:=zA (zH qb hb);clear hb))
  go_ret
  exact ⟨qe,qb⟩
def product_Check.f (k:Nat) (l0_0:List (S86)) (l0_1:List (S93)) (l0_2:List (List (S65))) (l0_3:List (S65)):Option (Int):=(model_Props.f k l0_0 l0_1 l0_2).bind fun t148=>(if t148 = 0 then ((logic_Check.f k l0_3 (l0_2.length:Int)).bind fun t149=>(some t149)) else (some t148))
theorem product_Check.mono:∀ a0 a1 a2 a3 k,LeO (product_Check.f k a0 a1 a2 a3) (product_Check.f (k + 1) a0 a1 a2 a3):=by
 intro a0 a1 a2 a3 k
 unfold product_Check.f
 exact qM (And.intro @logic_Check.mono @model_Props.mono)
set_option maxHeartbeats 8000000 in
set_option maxRecDepth 100000 in
theorem product_Check.calls (k:Nat) (A0_0:Option Addr) (c0_0:Nat) (l0_0:List (S86)) (A0_1:Option Addr) (c0_1:Nat) (l0_1:List (S93)) (A0_2:Option Addr) (c0_2:Nat) (l0_2:List (List (S65))) (A0_3:Option Addr) (c0_3:Nat) (l0_3:List (S65)) (r:Int) (w:World) (hr0_0:Kd.C k86 w A0_0 l0_0.length l0_0) (hc0_0:l0_0.length ≤ c0_0) (hr0_1:Kd.C k93 w A0_1 l0_1.length l0_1) (hc0_1:l0_1.length ≤ c0_1) (hr0_2:Kd.C (Kd.slice 65 k65) w A0_2 l0_2.length l0_2) (hc0_2:l0_2.length ≤ c0_2) (hr0_3:Kd.C k65 w A0_3 l0_3.length l0_3) (hc0_3:l0_3.length ≤ c0_3) (hL:LaidG w) (h:product_Check.f k l0_0 l0_1 l0_2 l0_3 = some r) :
  Calls Tryd.prog 28 #[.agg #[.slice A0_0 l0_0.length c0_0,.slice A0_1 l0_1.length c0_1,.slice A0_2 l0_2.length c0_2,.slice A0_3 l0_3.length c0_3]] w fun e w'=>e = .returned (.int .i64 r)∧Below w.heap.size w w':=by
 have HLd:=zA hL
 clear hL
 have hu47:=Tryd.underlying47
 have hu44:=Tryd.underlying44
 have HR0_0:=zA hr0_0
 have HC0_0:=zA hc0_0
 clear hr0_0 hc0_0
 have HR0_1:=zA hr0_1
 have HC0_1:=zA hc0_1
 clear hr0_1 hc0_1
 have HR0_2:=zA hr0_2
 have HC0_2:=zA hc0_2
 clear hr0_2 hc0_2
 have HR0_3:=zA hr0_3
 have HC0_3:=zA hc0_3
 clear hr0_3 hc0_3
 have HB:=zA (Below.refl w.heap.size w)
 have H:((model_Props.f k l0_0 l0_1 l0_2).bind fun t148=>(if t148 = 0 then ((logic_Check.f k l0_3 (l0_2.length:Int)).bind fun t149=>(some t149)) else (some t148))) = some r:=h
 clear h
 replace H:=zb.mp H
 obtain ⟨t148,A20,H⟩:=H
 replace H:(if t148 = 0 then ((logic_Check.f k l0_3 (l0_2.length:Int)).bind fun t149=>(some t149)) else (some t148)) = some r:=H
 have A2:=zA A20
 clear A20
 by_cases c3:t148 = 0
 ·rw [if_pos c3] at H
  have c3b0:(t148 == 0) = true:=beq_iff_eq.mpr c3
  have c3b1:(t148 != 0) = false:=bne_eq_false_iff_eq.mpr c3
  clear c3
  replace H:=zb.mp H
  obtain ⟨t149,A40,H⟩:=H
  replace H:(some t149) = some r:=H
  have A4:=zA A40
  clear A40
  obtain rfl:=Option.some.inj H
  go_enter Tryd.func28,Tryd.ntmps28
  go_wp2_with (first|((with_reducible refine zV (N:=1) rfl ?_);refine bq 1 (cs:=#[.slice A0_0 l0_0.length c0_0,.slice A0_1 l0_1.length c0_1,.slice A0_2 l0_2.length c0_2,.slice A0_3 l0_3.length c0_3]) (t:=47) ?_;intro gb147 hg w5 hbox hb;have BK147:=zA (hbox);have GW147:=zA (qg hg);have GE147:=zA (qg hg);replace HB:=zA (zH qb hb);clear hb hbox hg;have hcz6_0:=qx BK147 0;have hcz6_1:=qx BK147 1;have hcz6_2:=qx BK147 2;have hcz6_3:=qx BK147 3;have hfz6_0:=zJ BK147.out 0;have hfz6_1:=zJ BK147.out 1;have hfz6_2:=zJ BK147.out 2;have hfz6_3:=zJ BK147.out 3)|((with_reducible refine zU (f:=51) rfl ?_);refine gL (some 8) Tryd.func51 #[.agg #[.slice A0_0 l0_0.length c0_0,.slice A0_1 l0_1.length c0_1],.slice A0_2 l0_2.length c0_2] ?_;(with_reducible refine (model_Props.calls k _ _ l0_0 _ _ l0_1 _ _ l0_2 t148 _ (qc HR0_0) HC0_0.out (qc HR0_1) HC0_1.out (qc HR0_2) HC0_2.out qD A2.out).mono ?_);rintro e w7 ⟨rfl,hb⟩;refine ⟨_,rfl,?_⟩;replace BK147:=qK BK147 hb;replace HB:=zA (zH qb hb);clear hb;have hcz8_0:=qx BK147 0;have hcz8_1:=qx BK147 1;have hcz8_2:=qx BK147 2;have hcz8_3:=qx BK147 3;have hfz8_0:=zJ BK147.out 0;have hfz8_1:=zJ BK147.out 1;have hfz8_2:=zJ BK147.out 2;have hfz8_3:=zJ BK147.out 3)|((with_reducible refine zU (f:=41) rfl ?_);refine gL (some 17) Tryd.func41 #[.slice A0_3 l0_3.length c0_3,.int .i64 (l0_2.length:Int)] ?_;(with_reducible refine (logic_Check.calls k _ _ l0_3 (l0_2.length:Int) t149 _ (qc HR0_3) HC0_3.out qD A4.out).mono ?_);rintro e w9 ⟨rfl,hb⟩;refine ⟨_,rfl,?_⟩;replace BK147:=qK BK147 hb;replace HB:=zA (zH qb hb);clear hb))
  go_ret
  exact ⟨qe,qb⟩
 ·rw [if_neg c3] at H
  have c3b0:(t148 == 0) = false:=beq_eq_false_iff_ne.mpr c3
  have c3b1:(t148 != 0) = true:=bne_iff_ne.mpr c3
  obtain rfl:=Option.some.inj H
  go_enter Tryd.func28,Tryd.ntmps28
  go_wp2_with (first|((with_reducible refine zV (N:=1) rfl ?_);refine bq 1 (cs:=#[.slice A0_0 l0_0.length c0_0,.slice A0_1 l0_1.length c0_1,.slice A0_2 l0_2.length c0_2,.slice A0_3 l0_3.length c0_3]) (t:=47) ?_;intro gb147 hg w10 hbox hb;have BK147:=zA (hbox);have GW147:=zA (qg hg);have GE147:=zA (qg hg);replace HB:=zA (zH qb hb);clear hb hbox hg;have hcz11_0:=qx BK147 0;have hcz11_1:=qx BK147 1;have hcz11_2:=qx BK147 2;have hcz11_3:=qx BK147 3;have hfz11_0:=zJ BK147.out 0;have hfz11_1:=zJ BK147.out 1;have hfz11_2:=zJ BK147.out 2;have hfz11_3:=zJ BK147.out 3)|((with_reducible refine zU (f:=51) rfl ?_);refine gL (some 8) Tryd.func51 #[.agg #[.slice A0_0 l0_0.length c0_0,.slice A0_1 l0_1.length c0_1],.slice A0_2 l0_2.length c0_2] ?_;(with_reducible refine (model_Props.calls k _ _ l0_0 _ _ l0_1 _ _ l0_2 t148 _ (qc HR0_0) HC0_0.out (qc HR0_1) HC0_1.out (qc HR0_2) HC0_2.out qD A2.out).mono ?_);rintro e w12 ⟨rfl,hb⟩;refine ⟨_,rfl,?_⟩;replace BK147:=qK BK147 hb;replace HB:=zA (zH qb hb);clear hb))
  go_ret
  exact ⟨qe,qb⟩
end Go.Proofs.YthffpjkkmkjplaaDoor.S
namespace Go.Proofs.YthffpjkkmkjplaaDoor.S
open Go.Proofs.YthffpjkkmkjplaaDoor.Al
open Go.World renaming block_lt_of_cell? → zB
open Nat renaming lt_of_lt_of_le → zS
open Option renaming bind_eq_some_iff → zb
open Go.Proofs.YthffpjkkmkjplaaDoorW.PrintWords renaming below_step → zH, blk_frozen → zJ, blk_alloc → zK, blk_drewN → zL, blk_drew → zM, gate_dst → zV
open Go.Proofs.YthffpjkkmkjplaaDoor.Sq
open Go.RowKit Go.Proofs.YthffpjkkmkjplaaDoorW.PrintWords Go.Proofs.YthffpjkkmkjplaaDoorW.PrintLast Go.Proofs.YthffpjkkmkjplaaDoorW.PrintMore
attribute [local go_sem] max2_int min2_int max_two min_two max_three min_three max_four min_four
set_option linter.unusedVariables false
set_option linter.unusedSimpArgs false
def model_Code.l0:Nat → List Int → Int → List (S86) → Int → Int → Option (Int × Int)
 | 0,_,_,_,_,_=>none
 | k + 1,x1,x7,x22,x23,x24=>if x24 < x23 then (if 0 ≤ x24 then (if x24 < (x22.length:Int) then (if x24 < (x1.length:Int) then (if (rd x1 x24) < ((rd_T86 x22 x24).f1) then (some (0,9)) else (if (rd x1 x24) > ((rd_T86 x22 x24).f2) then (some (0,9)) else (model_Code.l0 k x1 (wrap64 ((wrap64 ((wrap64 (x7 * (wrap64 ((wrap64 (((rd_T86 x22 x24).f2) - ((rd_T86 x22 x24).f1))) + 1)))) + (rd x1 x24))) - ((rd_T86 x22 x24).f1))) x22 x23 (wrap64 (x24 + 1))))) else (none)) else (none)) else (none)) else (some (x7,0))
def model_Code.f (k:Nat) (l0_0:List (S86)) (l0_1:List (S93)) (l1:List Int):Option (Int × Int):=(model_Check.f k l0_0 l0_1).bind fun t151=>(if t151 = 0 then (if (l1.length:Int) = (l0_0.length:Int) then (model_Code.l0 k l1 0 l0_0 (l0_0.length:Int) 0) else (some (0,9))) else (some (0,t151)))
theorem model_Code.mono_l:∀ k,(∀ y0 y1 y2 y3 y4,LeO (model_Code.l0 k y0 y1 y2 y3 y4) (model_Code.l0 (k + 1) y0 y1 y2 y3 y4))
 | 0=>fun _ _ _ _ _ r h=>by simp [model_Code.l0] at h
 | k + 1=>by
  have ih0:=model_Code.mono_l k
  ·intro y0 y1 y2 y3 y4
   unfold model_Code.l0
   exact qM @model_Check.mono
theorem model_Code.mono:∀ a0 a1 a2 k,LeO (model_Code.f k a0 a1 a2) (model_Code.f (k + 1) a0 a1 a2):=by
 intro a0 a1 a2 k
 have ih0:=model_Code.mono_l k
 unfold model_Code.f
 exact qM @model_Check.mono
set_option maxHeartbeats 8000000 in
set_option maxRecDepth 100000 in
theorem model_Code.calls (k:Nat) (A0_0:Option Addr) (c0_0:Nat) (l0_0:List (S86)) (A0_1:Option Addr) (c0_1:Nat) (l0_1:List (S93)) (A1:Option Addr) (c1:Nat) (l1:List Int) (r1:Int) (r2:Int) (w:World) (hr0_0:Kd.C k86 w A0_0 l0_0.length l0_0) (hc0_0:l0_0.length ≤ c0_0) (hr0_1:Kd.C k93 w A0_1 l0_1.length l0_1) (hc0_1:l0_1.length ≤ c0_1) (hr1:Kd.C (Kd.int .i64) w A1 l1.length l1) (hc1:l1.length ≤ c1) (hL:LaidG w) (h:model_Code.f k l0_0 l0_1 l1 = some (r1,r2)) :
  Calls Tryd.prog 52 #[.agg #[.slice A0_0 l0_0.length c0_0,.slice A0_1 l0_1.length c0_1],.slice A1 l1.length c1] w fun e w'=>e = .returned (.tuple #[.int .i64 r1,.int .i64 r2])∧Below w.heap.size w w':=by
 have HLd:=zA hL
 clear hL
 have hu44:=Tryd.underlying44
 have hu86:=Tryd.underlying86
 have HR0_0:=zA hr0_0
 have HC0_0:=zA hc0_0
 clear hr0_0 hc0_0
 have HR0_1:=zA hr0_1
 have HC0_1:=zA hc0_1
 clear hr0_1 hc0_1
 have HR1:=zA hr1
 have HC1:=zA hc1
 clear hr1 hc1
 have HB:=zA (Below.refl w.heap.size w)
 have H:((model_Check.f k l0_0 l0_1).bind fun t151=>(if t151 = 0 then (if (l1.length:Int) = (l0_0.length:Int) then (model_Code.l0 k l1 0 l0_0 (l0_0.length:Int) 0) else (some (0,9))) else (some (0,t151)))) = some (r1,r2):=h
 clear h
 replace H:=zb.mp H
 obtain ⟨t151,A30,H⟩:=H
 replace H:(if t151 = 0 then (if (l1.length:Int) = (l0_0.length:Int) then (model_Code.l0 k l1 0 l0_0 (l0_0.length:Int) 0) else (some (0,9))) else (some (0,t151))) = some (r1,r2):=H
 have A3:=zA A30
 clear A30
 by_cases c4:t151 = 0
 ·rw [if_pos c4] at H
  have c4b0:(t151 == 0) = true:=beq_iff_eq.mpr c4
  have c4b1:(t151 != 0) = false:=bne_eq_false_iff_eq.mpr c4
  clear c4
  by_cases c5:(l1.length:Int) = (l0_0.length:Int)
  ·rw [if_pos c5] at H
   have c5b0:((l1.length:Int) == (l0_0.length:Int)) = true:=beq_iff_eq.mpr c5
   have c5b1:((l1.length:Int) != (l0_0.length:Int)) = false:=bne_eq_false_iff_eq.mpr c5
   have c5b2:(l1.length == l0_0.length) = true:=by first|simpa using c5|(simp at c5 ⊢;omega)
   clear c5
   have H':=zA H
   clear H
   go_enter Tryd.func52,Tryd.ntmps52
   go_wp2_with (first|((with_reducible refine zV (N:=2) rfl ?_);refine bq 2 (cs:=#[.slice A0_0 l0_0.length c0_0,.slice A0_1 l0_1.length c0_1]) (t:=44) ?_;intro gb150 hg w6 hbox hb;have BK150:=zA (hbox);have GW150:=zA (qg hg);have GE150:=zA (qg hg);replace HB:=zA (zH qb hb);clear hb hbox hg;have hcz7_0:=qx BK150 0;have hcz7_1:=qx BK150 1;have hfz7_0:=zJ BK150.out 0;have hfz7_1:=zJ BK150.out 1)|(go_at_call 78;(with_reducible refine (model_Check.calls k _ _ l0_0 _ _ l0_1 t151 _ (qc HR0_0) HC0_0.out (qc HR0_1) HC0_1.out qD A3.out).mono ?_);rintro e w8 ⟨rfl,hb⟩;replace BK150:=qK BK150 hb;replace HB:=zA (zH qb hb);clear hb;have hcz9_0:=qx BK150 0;have hcz9_1:=qx BK150 1;have hfz9_0:=zJ BK150.out 0;have hfz9_1:=zJ BK150.out 1))
   repeat (go_quiet (first|((with_reducible refine zV (N:=2) rfl ?_);refine bq 2 (cs:=#[.slice A0_0 l0_0.length c0_0,.slice A0_1 l0_1.length c0_1]) (t:=44) ?_;intro gb150 hg w6 hbox hb;have BK150:=zA (hbox);have GW150:=zA (qg hg);have GE150:=zA (qg hg);replace HB:=zA (zH qb hb);clear hb hbox hg;have hcz7_0:=qx BK150 0;have hcz7_1:=qx BK150 1;have hfz7_0:=zJ BK150.out 0;have hfz7_1:=zJ BK150.out 1)|(go_at_call 78;(with_reducible refine (model_Check.calls k _ _ l0_0 _ _ l0_1 t151 _ (qc HR0_0) HC0_0.out (qc HR0_1) HC0_1.out qD A3.out).mono ?_);rintro e w8 ⟨rfl,hb⟩;replace BK150:=qK BK150 hb;replace HB:=zA (zH qb hb);clear hb;have hcz9_0:=qx BK150 0;have hcz9_1:=qx BK150 1;have hfz9_0:=zJ BK150.out 0;have hfz9_1:=zJ BK150.out 1));try go_wp2_with (first|((with_reducible refine zV (N:=2) rfl ?_);refine bq 2 (cs:=#[.slice A0_0 l0_0.length c0_0,.slice A0_1 l0_1.length c0_1]) (t:=44) ?_;intro gb150 hg w6 hbox hb;have BK150:=zA (hbox);have GW150:=zA (qg hg);have GE150:=zA (qg hg);replace HB:=zA (zH qb hb);clear hb hbox hg;have hcz7_0:=qx BK150 0;have hcz7_1:=qx BK150 1;have hfz7_0:=zJ BK150.out 0;have hfz7_1:=zJ BK150.out 1)|(go_at_call 78;(with_reducible refine (model_Check.calls k _ _ l0_0 _ _ l0_1 t151 _ (qc HR0_0) HC0_0.out (qc HR0_1) HC0_1.out qD A3.out).mono ?_);rintro e w8 ⟨rfl,hb⟩;replace BK150:=qK BK150 hb;replace HB:=zA (zH qb hb);clear hb;have hcz9_0:=qx BK150 0;have hcz9_1:=qx BK150 1;have hfz9_0:=zJ BK150.out 0;have hfz9_1:=zJ BK150.out 1)))
   go_loopg [7,24] k (fun kq v7 v24 w'=>∃ (x7_1:Int) (x24_1:Int),v7 = .int .i64 x7_1∧v24 = .int .i64 x24_1∧Aside0 (model_Code.l0 kq l1 x7_1 l0_0 (l0_0.length:Int) x24_1 = some (r1,r2))∧Aside0 (kq ≤ k)∧Aside0 (w'.heap[gb150]? = some (.cells #[(.slice A0_0 l0_0.length c0_0),(.slice A0_1 l0_1.length c0_1)] 44 (0,0)))∧Aside0 (Below w.heap.size w w'))
   case atStart=>exact ⟨(0),(0),qr,qr,H',⟨Nat.le_refl _⟩,⟨qk BK150⟩,⟨qb⟩⟩
   case round =>
    clear H'
    try clear c1
    try clear p2
    try clear c4
    try clear c4b0
    try clear c4b1
    try clear c5
    try clear c5b0
    try clear c5b1
    try clear c5b2
    try clear hcz7_0
    try clear hcz7_1
    try clear hcz9_0
    try clear hcz9_1
    try clear hfz7_0
    try clear hfz7_1
    try clear hfz9_0
    try clear hfz9_1
    obtain ⟨x7_1,x24_1,rfl,rfl,HA,HK1,BK150,HB⟩:=hrel
    cases gk with
    | zero=>exact absurd HA.out (by simp [model_Code.l0])
    | succ k1 =>
     have H:=HA.out
     clear HA
     simp only [model_Code.l0] at H
     rcases qj H with ⟨c10b0,H⟩|⟨c10b0,H⟩
     ·rcases qj H with ⟨c11b0,H⟩|⟨c11,H⟩
      ·rcases qj H with ⟨c12b0,H⟩|⟨c12,H⟩
       ·rcases qj H with ⟨c13b0,H⟩|⟨c13,H⟩
        ·rcases qj H with ⟨c14b0,H⟩|⟨c14b0,H⟩
         ·simp only [Option.some.injEq,Prod.mk.injEq] at H
          obtain ⟨rfl,rfl⟩:=H
          have p152:0 ≤ (x24_1:Int):=qd
          have q152:x24_1 < (l0_0.length:Int):=qd
          obtain ⟨ad152,e152,hx152_0,hx152_1,hx152_2,hx152_3⟩:=at_T86 HR0_0.out x24_1 p152 q152
          cases e152
          replace hx152_0:=qy HB hx152_0
          replace hx152_1:=qy HB hx152_1
          replace hx152_2:=qy HB hx152_2
          replace hx152_3:=qy HB hx152_3
          replace p152:=eq_true p152
          replace q152:=eq_true q152
          go_wp2_with (first|((with_reducible refine zV (N:=9) rfl ?_);refine bq 9 (cs:=#[.string (⟨#[]⟩:ByteArray),.int .i64 0,.int .i64 0,.int .i64 0]) (t:=86) ?_;intro gb153 hg w15 hbox hb;have BK153:=zA (hbox);have GW153:=zA (qg hg);have GE153:=zA (qg hg);replace HB:=zA (zH qb hb);have NB150_153:=zA ((by rw [hg];exact Nat.ne_of_lt (blk_lt (g:=gb150) (o:=.cells #[.slice (some ad152) l0_0.length c0_0,.slice A0_1 l0_1.length c0_1] 44 (0,0)) (qk BK150)):gb150 ≠ gb153));have NB153_150:=zA ((by rw [hg];exact Nat.ne_of_gt (blk_lt (g:=gb150) (o:=.cells #[.slice (some ad152) l0_0.length c0_0,.slice A0_1 l0_1.length c0_1] 44 (0,0)) (qk BK150)):gb153 ≠ gb150));replace BK150:=qK BK150 hb;clear hb hbox hg;have hnb16:=NB153_150.out;have hnc16:=NB150_153.out;have hcz17_0:=qx BK153 0;have hcz17_1:=qx BK153 1;have hcz17_2:=qx BK153 2;have hcz17_3:=qx BK153 3;have hfz17_0:=zJ BK153.out 0;have hfz17_1:=zJ BK153.out 1;have hfz17_2:=zJ BK153.out 2;have hfz17_3:=zJ BK153.out 3;have p154:0 ≤ (x24_1:Int):=qd;have q154:x24_1 < (l1.length:Int):=qd;obtain ⟨ad154,e154,hx154_0⟩:=Kd.at_int HR1.out x24_1 p154 q154;cases e154;have hn154_0:ad154.block ≠ gb153:=Nat.ne_of_lt (zS (by have:=zB _ _ hx154_0;first|rwa [add_block] at this|exact this) GW153.out);have hn154_1:ad154.block ≠ gb153:=Nat.ne_of_lt (zS (by have:=zB _ _ hx154_0;first|rwa [add_block] at this|exact this) GW153.out);have hn154_2:ad154.block ≠ gb153:=Nat.ne_of_lt (zS (by have:=zB _ _ hx154_0;first|rwa [add_block] at this|exact this) GW153.out);have hn154_3:ad154.block ≠ gb153:=Nat.ne_of_lt (zS (by have:=zB _ _ hx154_0;first|rwa [add_block] at this|exact this) GW153.out);replace hx154_0:=qy HB hx154_0;replace hx154_0:=(cell_far (p:=⟨gb153,0,none⟩) (by first|(rw [add_block];exact hn154_0)|(show (Addr.add _ _).block ≠ _;rw [add_block];exact hn154_0)|exact hn154_0) (.string ((rd_T86 l0_0 x24_1).f0))).trans hx154_0;replace hx154_0:=(cell_far (p:=⟨gb153,1,none⟩) (by first|(rw [add_block];exact hn154_1)|(show (Addr.add _ _).block ≠ _;rw [add_block];exact hn154_1)|exact hn154_1) (.int .i64 ((rd_T86 l0_0 x24_1).f1))).trans hx154_0;replace hx154_0:=(cell_far (p:=⟨gb153,2,none⟩) (by first|(rw [add_block];exact hn154_2)|(show (Addr.add _ _).block ≠ _;rw [add_block];exact hn154_2)|exact hn154_2) (.int .i64 ((rd_T86 l0_0 x24_1).f2))).trans hx154_0;replace hx154_0:=(cell_far (p:=⟨gb153,3,none⟩) (by first|(rw [add_block];exact hn154_3)|(show (Addr.add _ _).block ≠ _;rw [add_block];exact hn154_3)|exact hn154_3) (.int .i64 ((rd_T86 l0_0 x24_1).f3))).trans hx154_0;(try have hy154_0:=fun (n_:Nat)=>(show ((((((w15.drewN n_).setCell ⟨gb153,0,none⟩ (.string ((rd_T86 l0_0 x24_1).f0))).setCell ⟨gb153,1,none⟩ (.int .i64 ((rd_T86 l0_0 x24_1).f1))).setCell ⟨gb153,2,none⟩ (.int .i64 ((rd_T86 l0_0 x24_1).f2))).setCell ⟨gb153,3,none⟩ (.int .i64 ((rd_T86 l0_0 x24_1).f3)))).cell? _ = some _ from hx154_0));clear hn154_0;clear hn154_1;clear hn154_2;clear hn154_3;replace p154:=eq_true p154;replace q154:=eq_true q154))
          repeat (go_quiet (first|((with_reducible refine zV (N:=9) rfl ?_);refine bq 9 (cs:=#[.string (⟨#[]⟩:ByteArray),.int .i64 0,.int .i64 0,.int .i64 0]) (t:=86) ?_;intro gb153 hg w15 hbox hb;have BK153:=zA (hbox);have GW153:=zA (qg hg);have GE153:=zA (qg hg);replace HB:=zA (zH qb hb);have NB150_153:=zA ((by rw [hg];exact Nat.ne_of_lt (blk_lt (g:=gb150) (o:=.cells #[.slice (some ad152) l0_0.length c0_0,.slice A0_1 l0_1.length c0_1] 44 (0,0)) (qk BK150)):gb150 ≠ gb153));have NB153_150:=zA ((by rw [hg];exact Nat.ne_of_gt (blk_lt (g:=gb150) (o:=.cells #[.slice (some ad152) l0_0.length c0_0,.slice A0_1 l0_1.length c0_1] 44 (0,0)) (qk BK150)):gb153 ≠ gb150));replace BK150:=qK BK150 hb;clear hb hbox hg;have hnb16:=NB153_150.out;have hnc16:=NB150_153.out;have hcz17_0:=qx BK153 0;have hcz17_1:=qx BK153 1;have hcz17_2:=qx BK153 2;have hcz17_3:=qx BK153 3;have hfz17_0:=zJ BK153.out 0;have hfz17_1:=zJ BK153.out 1;have hfz17_2:=zJ BK153.out 2;have hfz17_3:=zJ BK153.out 3;have p154:0 ≤ (x24_1:Int):=qd;have q154:x24_1 < (l1.length:Int):=qd;obtain ⟨ad154,e154,hx154_0⟩:=Kd.at_int HR1.out x24_1 p154 q154;cases e154;have hn154_0:ad154.block ≠ gb153:=Nat.ne_of_lt (zS (by have:=zB _ _ hx154_0;first|rwa [add_block] at this|exact this) GW153.out);have hn154_1:ad154.block ≠ gb153:=Nat.ne_of_lt (zS (by have:=zB _ _ hx154_0;first|rwa [add_block] at this|exact this) GW153.out);have hn154_2:ad154.block ≠ gb153:=Nat.ne_of_lt (zS (by have:=zB _ _ hx154_0;first|rwa [add_block] at this|exact this) GW153.out);have hn154_3:ad154.block ≠ gb153:=Nat.ne_of_lt (zS (by have:=zB _ _ hx154_0;first|rwa [add_block] at this|exact this) GW153.out);replace hx154_0:=qy HB hx154_0;replace hx154_0:=(cell_far (p:=⟨gb153,0,none⟩) (by first|(rw [add_block];exact hn154_0)|(show (Addr.add _ _).block ≠ _;rw [add_block];exact hn154_0)|exact hn154_0) (.string ((rd_T86 l0_0 x24_1).f0))).trans hx154_0;replace hx154_0:=(cell_far (p:=⟨gb153,1,none⟩) (by first|(rw [add_block];exact hn154_1)|(show (Addr.add _ _).block ≠ _;rw [add_block];exact hn154_1)|exact hn154_1) (.int .i64 ((rd_T86 l0_0 x24_1).f1))).trans hx154_0;replace hx154_0:=(cell_far (p:=⟨gb153,2,none⟩) (by first|(rw [add_block];exact hn154_2)|(show (Addr.add _ _).block ≠ _;rw [add_block];exact hn154_2)|exact hn154_2) (.int .i64 ((rd_T86 l0_0 x24_1).f2))).trans hx154_0;replace hx154_0:=(cell_far (p:=⟨gb153,3,none⟩) (by first|(rw [add_block];exact hn154_3)|(show (Addr.add _ _).block ≠ _;rw [add_block];exact hn154_3)|exact hn154_3) (.int .i64 ((rd_T86 l0_0 x24_1).f3))).trans hx154_0;(try have hy154_0:=fun (n_:Nat)=>(show ((((((w15.drewN n_).setCell ⟨gb153,0,none⟩ (.string ((rd_T86 l0_0 x24_1).f0))).setCell ⟨gb153,1,none⟩ (.int .i64 ((rd_T86 l0_0 x24_1).f1))).setCell ⟨gb153,2,none⟩ (.int .i64 ((rd_T86 l0_0 x24_1).f2))).setCell ⟨gb153,3,none⟩ (.int .i64 ((rd_T86 l0_0 x24_1).f3)))).cell? _ = some _ from hx154_0));clear hn154_0;clear hn154_1;clear hn154_2;clear hn154_3;replace p154:=eq_true p154;replace q154:=eq_true q154));try go_wp2_with (first|((with_reducible refine zV (N:=9) rfl ?_);refine bq 9 (cs:=#[.string (⟨#[]⟩:ByteArray),.int .i64 0,.int .i64 0,.int .i64 0]) (t:=86) ?_;intro gb153 hg w15 hbox hb;have BK153:=zA (hbox);have GW153:=zA (qg hg);have GE153:=zA (qg hg);replace HB:=zA (zH qb hb);have NB150_153:=zA ((by rw [hg];exact Nat.ne_of_lt (blk_lt (g:=gb150) (o:=.cells #[.slice (some ad152) l0_0.length c0_0,.slice A0_1 l0_1.length c0_1] 44 (0,0)) (qk BK150)):gb150 ≠ gb153));have NB153_150:=zA ((by rw [hg];exact Nat.ne_of_gt (blk_lt (g:=gb150) (o:=.cells #[.slice (some ad152) l0_0.length c0_0,.slice A0_1 l0_1.length c0_1] 44 (0,0)) (qk BK150)):gb153 ≠ gb150));replace BK150:=qK BK150 hb;clear hb hbox hg;have hnb16:=NB153_150.out;have hnc16:=NB150_153.out;have hcz17_0:=qx BK153 0;have hcz17_1:=qx BK153 1;have hcz17_2:=qx BK153 2;have hcz17_3:=qx BK153 3;have hfz17_0:=zJ BK153.out 0;have hfz17_1:=zJ BK153.out 1;have hfz17_2:=zJ BK153.out 2;have hfz17_3:=zJ BK153.out 3;have p154:0 ≤ (x24_1:Int):=qd;have q154:x24_1 < (l1.length:Int):=qd;obtain ⟨ad154,e154,hx154_0⟩:=Kd.at_int HR1.out x24_1 p154 q154;cases e154;have hn154_0:ad154.block ≠ gb153:=Nat.ne_of_lt (zS (by have:=zB _ _ hx154_0;first|rwa [add_block] at this|exact this) GW153.out);have hn154_1:ad154.block ≠ gb153:=Nat.ne_of_lt (zS (by have:=zB _ _ hx154_0;first|rwa [add_block] at this|exact this) GW153.out);have hn154_2:ad154.block ≠ gb153:=Nat.ne_of_lt (zS (by have:=zB _ _ hx154_0;first|rwa [add_block] at this|exact this) GW153.out);have hn154_3:ad154.block ≠ gb153:=Nat.ne_of_lt (zS (by have:=zB _ _ hx154_0;first|rwa [add_block] at this|exact this) GW153.out);replace hx154_0:=qy HB hx154_0;replace hx154_0:=(cell_far (p:=⟨gb153,0,none⟩) (by first|(rw [add_block];exact hn154_0)|(show (Addr.add _ _).block ≠ _;rw [add_block];exact hn154_0)|exact hn154_0) (.string ((rd_T86 l0_0 x24_1).f0))).trans hx154_0;replace hx154_0:=(cell_far (p:=⟨gb153,1,none⟩) (by first|(rw [add_block];exact hn154_1)|(show (Addr.add _ _).block ≠ _;rw [add_block];exact hn154_1)|exact hn154_1) (.int .i64 ((rd_T86 l0_0 x24_1).f1))).trans hx154_0;replace hx154_0:=(cell_far (p:=⟨gb153,2,none⟩) (by first|(rw [add_block];exact hn154_2)|(show (Addr.add _ _).block ≠ _;rw [add_block];exact hn154_2)|exact hn154_2) (.int .i64 ((rd_T86 l0_0 x24_1).f2))).trans hx154_0;replace hx154_0:=(cell_far (p:=⟨gb153,3,none⟩) (by first|(rw [add_block];exact hn154_3)|(show (Addr.add _ _).block ≠ _;rw [add_block];exact hn154_3)|exact hn154_3) (.int .i64 ((rd_T86 l0_0 x24_1).f3))).trans hx154_0;(try have hy154_0:=fun (n_:Nat)=>(show ((((((w15.drewN n_).setCell ⟨gb153,0,none⟩ (.string ((rd_T86 l0_0 x24_1).f0))).setCell ⟨gb153,1,none⟩ (.int .i64 ((rd_T86 l0_0 x24_1).f1))).setCell ⟨gb153,2,none⟩ (.int .i64 ((rd_T86 l0_0 x24_1).f2))).setCell ⟨gb153,3,none⟩ (.int .i64 ((rd_T86 l0_0 x24_1).f3)))).cell? _ = some _ from hx154_0));clear hn154_0;clear hn154_1;clear hn154_2;clear hn154_3;replace p154:=eq_true p154;replace q154:=eq_true q154)))
          go_ret2
          exact ⟨qe,qb⟩
         ·by_cases c18:(rd l1 x24_1) > ((rd_T86 l0_0 x24_1).f2)
          ·rw [if_pos c18] at H
           have c18b0:decide (((rd_T86 l0_0 x24_1).f2) < (rd l1 x24_1)) = true:=zQ c18
           clear c18
           simp only [Option.some.injEq,Prod.mk.injEq] at H
           obtain ⟨rfl,rfl⟩:=H
           have p152:0 ≤ (x24_1:Int):=qd
           have q152:x24_1 < (l0_0.length:Int):=qd
           obtain ⟨ad152,e152,hx152_0,hx152_1,hx152_2,hx152_3⟩:=at_T86 HR0_0.out x24_1 p152 q152
           cases e152
           replace hx152_0:=qy HB hx152_0
           replace hx152_1:=qy HB hx152_1
           replace hx152_2:=qy HB hx152_2
           replace hx152_3:=qy HB hx152_3
           replace p152:=eq_true p152
           replace q152:=eq_true q152
           go_wp2_with (first|((with_reducible refine zV (N:=9) rfl ?_);refine bq 9 (cs:=#[.string (⟨#[]⟩:ByteArray),.int .i64 0,.int .i64 0,.int .i64 0]) (t:=86) ?_;intro gb153 hg w19 hbox hb;have BK153:=zA (hbox);have GW153:=zA (qg hg);have GE153:=zA (qg hg);replace HB:=zA (zH qb hb);have NB150_153:=zA ((by rw [hg];exact Nat.ne_of_lt (blk_lt (g:=gb150) (o:=.cells #[.slice (some ad152) l0_0.length c0_0,.slice A0_1 l0_1.length c0_1] 44 (0,0)) (qk BK150)):gb150 ≠ gb153));have NB153_150:=zA ((by rw [hg];exact Nat.ne_of_gt (blk_lt (g:=gb150) (o:=.cells #[.slice (some ad152) l0_0.length c0_0,.slice A0_1 l0_1.length c0_1] 44 (0,0)) (qk BK150)):gb153 ≠ gb150));replace BK150:=qK BK150 hb;clear hb hbox hg;have hnb20:=NB153_150.out;have hnc20:=NB150_153.out;have hcz21_0:=qx BK153 0;have hcz21_1:=qx BK153 1;have hcz21_2:=qx BK153 2;have hcz21_3:=qx BK153 3;have hfz21_0:=zJ BK153.out 0;have hfz21_1:=zJ BK153.out 1;have hfz21_2:=zJ BK153.out 2;have hfz21_3:=zJ BK153.out 3;have p154:0 ≤ (x24_1:Int):=qd;have q154:x24_1 < (l1.length:Int):=qd;obtain ⟨ad154,e154,hx154_0⟩:=Kd.at_int HR1.out x24_1 p154 q154;cases e154;have hn154_0:ad154.block ≠ gb153:=Nat.ne_of_lt (zS (by have:=zB _ _ hx154_0;first|rwa [add_block] at this|exact this) GW153.out);have hn154_1:ad154.block ≠ gb153:=Nat.ne_of_lt (zS (by have:=zB _ _ hx154_0;first|rwa [add_block] at this|exact this) GW153.out);have hn154_2:ad154.block ≠ gb153:=Nat.ne_of_lt (zS (by have:=zB _ _ hx154_0;first|rwa [add_block] at this|exact this) GW153.out);have hn154_3:ad154.block ≠ gb153:=Nat.ne_of_lt (zS (by have:=zB _ _ hx154_0;first|rwa [add_block] at this|exact this) GW153.out);replace hx154_0:=qy HB hx154_0;replace hx154_0:=(cell_far (p:=⟨gb153,0,none⟩) (by first|(rw [add_block];exact hn154_0)|(show (Addr.add _ _).block ≠ _;rw [add_block];exact hn154_0)|exact hn154_0) (.string ((rd_T86 l0_0 x24_1).f0))).trans hx154_0;replace hx154_0:=(cell_far (p:=⟨gb153,1,none⟩) (by first|(rw [add_block];exact hn154_1)|(show (Addr.add _ _).block ≠ _;rw [add_block];exact hn154_1)|exact hn154_1) (.int .i64 ((rd_T86 l0_0 x24_1).f1))).trans hx154_0;replace hx154_0:=(cell_far (p:=⟨gb153,2,none⟩) (by first|(rw [add_block];exact hn154_2)|(show (Addr.add _ _).block ≠ _;rw [add_block];exact hn154_2)|exact hn154_2) (.int .i64 ((rd_T86 l0_0 x24_1).f2))).trans hx154_0;replace hx154_0:=(cell_far (p:=⟨gb153,3,none⟩) (by first|(rw [add_block];exact hn154_3)|(show (Addr.add _ _).block ≠ _;rw [add_block];exact hn154_3)|exact hn154_3) (.int .i64 ((rd_T86 l0_0 x24_1).f3))).trans hx154_0;(try have hy154_0:=fun (n_:Nat)=>(show ((((((w19.drewN n_).setCell ⟨gb153,0,none⟩ (.string ((rd_T86 l0_0 x24_1).f0))).setCell ⟨gb153,1,none⟩ (.int .i64 ((rd_T86 l0_0 x24_1).f1))).setCell ⟨gb153,2,none⟩ (.int .i64 ((rd_T86 l0_0 x24_1).f2))).setCell ⟨gb153,3,none⟩ (.int .i64 ((rd_T86 l0_0 x24_1).f3)))).cell? _ = some _ from hx154_0));clear hn154_0;clear hn154_1;clear hn154_2;clear hn154_3;replace p154:=eq_true p154;replace q154:=eq_true q154;have p155:0 ≤ (x24_1:Int):=qd;have q155:x24_1 < (l1.length:Int):=qd;obtain ⟨ad155,e155,hx155_0⟩:=Kd.at_int HR1.out x24_1 p155 q155;obtain rfl:ad154 = ad155:=(by injection e155);have hn155_0:ad154.block ≠ gb153:=Nat.ne_of_lt (zS (by have:=zB _ _ hx155_0;first|rwa [add_block] at this|exact this) GW153.out);have hn155_1:ad154.block ≠ gb153:=Nat.ne_of_lt (zS (by have:=zB _ _ hx155_0;first|rwa [add_block] at this|exact this) GW153.out);have hn155_2:ad154.block ≠ gb153:=Nat.ne_of_lt (zS (by have:=zB _ _ hx155_0;first|rwa [add_block] at this|exact this) GW153.out);have hn155_3:ad154.block ≠ gb153:=Nat.ne_of_lt (zS (by have:=zB _ _ hx155_0;first|rwa [add_block] at this|exact this) GW153.out);replace hx155_0:=qy HB hx155_0;replace hx155_0:=(cell_far (p:=⟨gb153,0,none⟩) (by first|(rw [add_block];exact hn155_0)|(show (Addr.add _ _).block ≠ _;rw [add_block];exact hn155_0)|exact hn155_0) (.string ((rd_T86 l0_0 x24_1).f0))).trans hx155_0;replace hx155_0:=(cell_far (p:=⟨gb153,1,none⟩) (by first|(rw [add_block];exact hn155_1)|(show (Addr.add _ _).block ≠ _;rw [add_block];exact hn155_1)|exact hn155_1) (.int .i64 ((rd_T86 l0_0 x24_1).f1))).trans hx155_0;replace hx155_0:=(cell_far (p:=⟨gb153,2,none⟩) (by first|(rw [add_block];exact hn155_2)|(show (Addr.add _ _).block ≠ _;rw [add_block];exact hn155_2)|exact hn155_2) (.int .i64 ((rd_T86 l0_0 x24_1).f2))).trans hx155_0;replace hx155_0:=(cell_far (p:=⟨gb153,3,none⟩) (by first|(rw [add_block];exact hn155_3)|(show (Addr.add _ _).block ≠ _;rw [add_block];exact hn155_3)|exact hn155_3) (.int .i64 ((rd_T86 l0_0 x24_1).f3))).trans hx155_0;(try have hy155_0:=fun (n_:Nat)=>(show ((((((w19.drewN n_).setCell ⟨gb153,0,none⟩ (.string ((rd_T86 l0_0 x24_1).f0))).setCell ⟨gb153,1,none⟩ (.int .i64 ((rd_T86 l0_0 x24_1).f1))).setCell ⟨gb153,2,none⟩ (.int .i64 ((rd_T86 l0_0 x24_1).f2))).setCell ⟨gb153,3,none⟩ (.int .i64 ((rd_T86 l0_0 x24_1).f3)))).cell? _ = some _ from hx155_0));clear hn155_0;clear hn155_1;clear hn155_2;clear hn155_3;replace p155:=eq_true p155;replace q155:=eq_true q155))
           repeat (go_quiet (first|((with_reducible refine zV (N:=9) rfl ?_);refine bq 9 (cs:=#[.string (⟨#[]⟩:ByteArray),.int .i64 0,.int .i64 0,.int .i64 0]) (t:=86) ?_;intro gb153 hg w19 hbox hb;have BK153:=zA (hbox);have GW153:=zA (qg hg);have GE153:=zA (qg hg);replace HB:=zA (zH qb hb);have NB150_153:=zA ((by rw [hg];exact Nat.ne_of_lt (blk_lt (g:=gb150) (o:=.cells #[.slice (some ad152) l0_0.length c0_0,.slice A0_1 l0_1.length c0_1] 44 (0,0)) (qk BK150)):gb150 ≠ gb153));have NB153_150:=zA ((by rw [hg];exact Nat.ne_of_gt (blk_lt (g:=gb150) (o:=.cells #[.slice (some ad152) l0_0.length c0_0,.slice A0_1 l0_1.length c0_1] 44 (0,0)) (qk BK150)):gb153 ≠ gb150));replace BK150:=qK BK150 hb;clear hb hbox hg;have hnb20:=NB153_150.out;have hnc20:=NB150_153.out;have hcz21_0:=qx BK153 0;have hcz21_1:=qx BK153 1;have hcz21_2:=qx BK153 2;have hcz21_3:=qx BK153 3;have hfz21_0:=zJ BK153.out 0;have hfz21_1:=zJ BK153.out 1;have hfz21_2:=zJ BK153.out 2;have hfz21_3:=zJ BK153.out 3;have p154:0 ≤ (x24_1:Int):=qd;have q154:x24_1 < (l1.length:Int):=qd;obtain ⟨ad154,e154,hx154_0⟩:=Kd.at_int HR1.out x24_1 p154 q154;cases e154;have hn154_0:ad154.block ≠ gb153:=Nat.ne_of_lt (zS (by have:=zB _ _ hx154_0;first|rwa [add_block] at this|exact this) GW153.out);have hn154_1:ad154.block ≠ gb153:=Nat.ne_of_lt (zS (by have:=zB _ _ hx154_0;first|rwa [add_block] at this|exact this) GW153.out);have hn154_2:ad154.block ≠ gb153:=Nat.ne_of_lt (zS (by have:=zB _ _ hx154_0;first|rwa [add_block] at this|exact this) GW153.out);have hn154_3:ad154.block ≠ gb153:=Nat.ne_of_lt (zS (by have:=zB _ _ hx154_0;first|rwa [add_block] at this|exact this) GW153.out);replace hx154_0:=qy HB hx154_0;replace hx154_0:=(cell_far (p:=⟨gb153,0,none⟩) (by first|(rw [add_block];exact hn154_0)|(show (Addr.add _ _).block ≠ _;rw [add_block];exact hn154_0)|exact hn154_0) (.string ((rd_T86 l0_0 x24_1).f0))).trans hx154_0;replace hx154_0:=(cell_far (p:=⟨gb153,1,none⟩) (by first|(rw [add_block];exact hn154_1)|(show (Addr.add _ _).block ≠ _;rw [add_block];exact hn154_1)|exact hn154_1) (.int .i64 ((rd_T86 l0_0 x24_1).f1))).trans hx154_0;replace hx154_0:=(cell_far (p:=⟨gb153,2,none⟩) (by first|(rw [add_block];exact hn154_2)|(show (Addr.add _ _).block ≠ _;rw [add_block];exact hn154_2)|exact hn154_2) (.int .i64 ((rd_T86 l0_0 x24_1).f2))).trans hx154_0;replace hx154_0:=(cell_far (p:=⟨gb153,3,none⟩) (by first|(rw [add_block];exact hn154_3)|(show (Addr.add _ _).block ≠ _;rw [add_block];exact hn154_3)|exact hn154_3) (.int .i64 ((rd_T86 l0_0 x24_1).f3))).trans hx154_0;(try have hy154_0:=fun (n_:Nat)=>(show ((((((w19.drewN n_).setCell ⟨gb153,0,none⟩ (.string ((rd_T86 l0_0 x24_1).f0))).setCell ⟨gb153,1,none⟩ (.int .i64 ((rd_T86 l0_0 x24_1).f1))).setCell ⟨gb153,2,none⟩ (.int .i64 ((rd_T86 l0_0 x24_1).f2))).setCell ⟨gb153,3,none⟩ (.int .i64 ((rd_T86 l0_0 x24_1).f3)))).cell? _ = some _ from hx154_0));clear hn154_0;clear hn154_1;clear hn154_2;clear hn154_3;replace p154:=eq_true p154;replace q154:=eq_true q154;have p155:0 ≤ (x24_1:Int):=qd;have q155:x24_1 < (l1.length:Int):=qd;obtain ⟨ad155,e155,hx155_0⟩:=Kd.at_int HR1.out x24_1 p155 q155;obtain rfl:ad154 = ad155:=(by injection e155);have hn155_0:ad154.block ≠ gb153:=Nat.ne_of_lt (zS (by have:=zB _ _ hx155_0;first|rwa [add_block] at this|exact this) GW153.out);have hn155_1:ad154.block ≠ gb153:=Nat.ne_of_lt (zS (by have:=zB _ _ hx155_0;first|rwa [add_block] at this|exact this) GW153.out);have hn155_2:ad154.block ≠ gb153:=Nat.ne_of_lt (zS (by have:=zB _ _ hx155_0;first|rwa [add_block] at this|exact this) GW153.out);have hn155_3:ad154.block ≠ gb153:=Nat.ne_of_lt (zS (by have:=zB _ _ hx155_0;first|rwa [add_block] at this|exact this) GW153.out);replace hx155_0:=qy HB hx155_0;replace hx155_0:=(cell_far (p:=⟨gb153,0,none⟩) (by first|(rw [add_block];exact hn155_0)|(show (Addr.add _ _).block ≠ _;rw [add_block];exact hn155_0)|exact hn155_0) (.string ((rd_T86 l0_0 x24_1).f0))).trans hx155_0;replace hx155_0:=(cell_far (p:=⟨gb153,1,none⟩) (by first|(rw [add_block];exact hn155_1)|(show (Addr.add _ _).block ≠ _;rw [add_block];exact hn155_1)|exact hn155_1) (.int .i64 ((rd_T86 l0_0 x24_1).f1))).trans hx155_0;replace hx155_0:=(cell_far (p:=⟨gb153,2,none⟩) (by first|(rw [add_block];exact hn155_2)|(show (Addr.add _ _).block ≠ _;rw [add_block];exact hn155_2)|exact hn155_2) (.int .i64 ((rd_T86 l0_0 x24_1).f2))).trans hx155_0;replace hx155_0:=(cell_far (p:=⟨gb153,3,none⟩) (by first|(rw [add_block];exact hn155_3)|(show (Addr.add _ _).block ≠ _;rw [add_block];exact hn155_3)|exact hn155_3) (.int .i64 ((rd_T86 l0_0 x24_1).f3))).trans hx155_0;(try have hy155_0:=fun (n_:Nat)=>(show ((((((w19.drewN n_).setCell ⟨gb153,0,none⟩ (.string ((rd_T86 l0_0 x24_1).f0))).setCell ⟨gb153,1,none⟩ (.int .i64 ((rd_T86 l0_0 x24_1).f1))).setCell ⟨gb153,2,none⟩ (.int .i64 ((rd_T86 l0_0 x24_1).f2))).setCell ⟨gb153,3,none⟩ (.int .i64 ((rd_T86 l0_0 x24_1).f3)))).cell? _ = some _ from hx155_0));clear hn155_0;clear hn155_1;clear hn155_2;clear hn155_3;replace p155:=eq_true p155;replace q155:=eq_true q155));try go_wp2_with (first|((with_reducible refine zV (N:=9) rfl ?_);refine bq 9 (cs:=#[.string (⟨#[]⟩:ByteArray),.int .i64 0,.int .i64 0,.int .i64 0]) (t:=86) ?_;intro gb153 hg w19 hbox hb;have BK153:=zA (hbox);have GW153:=zA (qg hg);have GE153:=zA (qg hg);replace HB:=zA (zH qb hb);have NB150_153:=zA ((by rw [hg];exact Nat.ne_of_lt (blk_lt (g:=gb150) (o:=.cells #[.slice (some ad152) l0_0.length c0_0,.slice A0_1 l0_1.length c0_1] 44 (0,0)) (qk BK150)):gb150 ≠ gb153));have NB153_150:=zA ((by rw [hg];exact Nat.ne_of_gt (blk_lt (g:=gb150) (o:=.cells #[.slice (some ad152) l0_0.length c0_0,.slice A0_1 l0_1.length c0_1] 44 (0,0)) (qk BK150)):gb153 ≠ gb150));replace BK150:=qK BK150 hb;clear hb hbox hg;have hnb20:=NB153_150.out;have hnc20:=NB150_153.out;have hcz21_0:=qx BK153 0;have hcz21_1:=qx BK153 1;have hcz21_2:=qx BK153 2;have hcz21_3:=qx BK153 3;have hfz21_0:=zJ BK153.out 0;have hfz21_1:=zJ BK153.out 1;have hfz21_2:=zJ BK153.out 2;have hfz21_3:=zJ BK153.out 3;have p154:0 ≤ (x24_1:Int):=qd;have q154:x24_1 < (l1.length:Int):=qd;obtain ⟨ad154,e154,hx154_0⟩:=Kd.at_int HR1.out x24_1 p154 q154;cases e154;have hn154_0:ad154.block ≠ gb153:=Nat.ne_of_lt (zS (by have:=zB _ _ hx154_0;first|rwa [add_block] at this|exact this) GW153.out);have hn154_1:ad154.block ≠ gb153:=Nat.ne_of_lt (zS (by have:=zB _ _ hx154_0;first|rwa [add_block] at this|exact this) GW153.out);have hn154_2:ad154.block ≠ gb153:=Nat.ne_of_lt (zS (by have:=zB _ _ hx154_0;first|rwa [add_block] at this|exact this) GW153.out);have hn154_3:ad154.block ≠ gb153:=Nat.ne_of_lt (zS (by have:=zB _ _ hx154_0;first|rwa [add_block] at this|exact this) GW153.out);replace hx154_0:=qy HB hx154_0;replace hx154_0:=(cell_far (p:=⟨gb153,0,none⟩) (by first|(rw [add_block];exact hn154_0)|(show (Addr.add _ _).block ≠ _;rw [add_block];exact hn154_0)|exact hn154_0) (.string ((rd_T86 l0_0 x24_1).f0))).trans hx154_0;replace hx154_0:=(cell_far (p:=⟨gb153,1,none⟩) (by first|(rw [add_block];exact hn154_1)|(show (Addr.add _ _).block ≠ _;rw [add_block];exact hn154_1)|exact hn154_1) (.int .i64 ((rd_T86 l0_0 x24_1).f1))).trans hx154_0;replace hx154_0:=(cell_far (p:=⟨gb153,2,none⟩) (by first|(rw [add_block];exact hn154_2)|(show (Addr.add _ _).block ≠ _;rw [add_block];exact hn154_2)|exact hn154_2) (.int .i64 ((rd_T86 l0_0 x24_1).f2))).trans hx154_0;replace hx154_0:=(cell_far (p:=⟨gb153,3,none⟩) (by first|(rw [add_block];exact hn154_3)|(show (Addr.add _ _).block ≠ _;rw [add_block];exact hn154_3)|exact hn154_3) (.int .i64 ((rd_T86 l0_0 x24_1).f3))).trans hx154_0;(try have hy154_0:=fun (n_:Nat)=>(show ((((((w19.drewN n_).setCell ⟨gb153,0,none⟩ (.string ((rd_T86 l0_0 x24_1).f0))).setCell ⟨gb153,1,none⟩ (.int .i64 ((rd_T86 l0_0 x24_1).f1))).setCell ⟨gb153,2,none⟩ (.int .i64 ((rd_T86 l0_0 x24_1).f2))).setCell ⟨gb153,3,none⟩ (.int .i64 ((rd_T86 l0_0 x24_1).f3)))).cell? _ = some _ from hx154_0));clear hn154_0;clear hn154_1;clear hn154_2;clear hn154_3;replace p154:=eq_true p154;replace q154:=eq_true q154;have p155:0 ≤ (x24_1:Int):=qd;have q155:x24_1 < (l1.length:Int):=qd;obtain ⟨ad155,e155,hx155_0⟩:=Kd.at_int HR1.out x24_1 p155 q155;obtain rfl:ad154 = ad155:=(by injection e155);have hn155_0:ad154.block ≠ gb153:=Nat.ne_of_lt (zS (by have:=zB _ _ hx155_0;first|rwa [add_block] at this|exact this) GW153.out);have hn155_1:ad154.block ≠ gb153:=Nat.ne_of_lt (zS (by have:=zB _ _ hx155_0;first|rwa [add_block] at this|exact this) GW153.out);have hn155_2:ad154.block ≠ gb153:=Nat.ne_of_lt (zS (by have:=zB _ _ hx155_0;first|rwa [add_block] at this|exact this) GW153.out);have hn155_3:ad154.block ≠ gb153:=Nat.ne_of_lt (zS (by have:=zB _ _ hx155_0;first|rwa [add_block] at this|exact this) GW153.out);replace hx155_0:=qy HB hx155_0;replace hx155_0:=(cell_far (p:=⟨gb153,0,none⟩) (by first|(rw [add_block];exact hn155_0)|(show (Addr.add _ _).block ≠ _;rw [add_block];exact hn155_0)|exact hn155_0) (.string ((rd_T86 l0_0 x24_1).f0))).trans hx155_0;replace hx155_0:=(cell_far (p:=⟨gb153,1,none⟩) (by first|(rw [add_block];exact hn155_1)|(show (Addr.add _ _).block ≠ _;rw [add_block];exact hn155_1)|exact hn155_1) (.int .i64 ((rd_T86 l0_0 x24_1).f1))).trans hx155_0;replace hx155_0:=(cell_far (p:=⟨gb153,2,none⟩) (by first|(rw [add_block];exact hn155_2)|(show (Addr.add _ _).block ≠ _;rw [add_block];exact hn155_2)|exact hn155_2) (.int .i64 ((rd_T86 l0_0 x24_1).f2))).trans hx155_0;replace hx155_0:=(cell_far (p:=⟨gb153,3,none⟩) (by first|(rw [add_block];exact hn155_3)|(show (Addr.add _ _).block ≠ _;rw [add_block];exact hn155_3)|exact hn155_3) (.int .i64 ((rd_T86 l0_0 x24_1).f3))).trans hx155_0;(try have hy155_0:=fun (n_:Nat)=>(show ((((((w19.drewN n_).setCell ⟨gb153,0,none⟩ (.string ((rd_T86 l0_0 x24_1).f0))).setCell ⟨gb153,1,none⟩ (.int .i64 ((rd_T86 l0_0 x24_1).f1))).setCell ⟨gb153,2,none⟩ (.int .i64 ((rd_T86 l0_0 x24_1).f2))).setCell ⟨gb153,3,none⟩ (.int .i64 ((rd_T86 l0_0 x24_1).f3)))).cell? _ = some _ from hx155_0));clear hn155_0;clear hn155_1;clear hn155_2;clear hn155_3;replace p155:=eq_true p155;replace q155:=eq_true q155)))
           go_ret2
           exact ⟨qe,qb⟩
          ·rw [if_neg c18] at H
           have c18b0:decide (((rd_T86 l0_0 x24_1).f2) < (rd l1 x24_1)) = false:=zR c18
           clear c18
           have H':=zA H
           clear H
           have p152:0 ≤ (x24_1:Int):=qd
           have q152:x24_1 < (l0_0.length:Int):=qd
           obtain ⟨ad152,e152,hx152_0,hx152_1,hx152_2,hx152_3⟩:=at_T86 HR0_0.out x24_1 p152 q152
           cases e152
           replace hx152_0:=qy HB hx152_0
           replace hx152_1:=qy HB hx152_1
           replace hx152_2:=qy HB hx152_2
           replace hx152_3:=qy HB hx152_3
           replace p152:=eq_true p152
           replace q152:=eq_true q152
           go_wp2_with (first|((with_reducible refine zV (N:=9) rfl ?_);refine bq 9 (cs:=#[.string (⟨#[]⟩:ByteArray),.int .i64 0,.int .i64 0,.int .i64 0]) (t:=86) ?_;intro gb153 hg w22 hbox hb;have BK153:=zA (hbox);have GW153:=zA (qg hg);have GE153:=zA (qg hg);replace HB:=zA (zH qb hb);have NB150_153:=zA ((by rw [hg];exact Nat.ne_of_lt (blk_lt (g:=gb150) (o:=.cells #[.slice (some ad152) l0_0.length c0_0,.slice A0_1 l0_1.length c0_1] 44 (0,0)) (qk BK150)):gb150 ≠ gb153));have NB153_150:=zA ((by rw [hg];exact Nat.ne_of_gt (blk_lt (g:=gb150) (o:=.cells #[.slice (some ad152) l0_0.length c0_0,.slice A0_1 l0_1.length c0_1] 44 (0,0)) (qk BK150)):gb153 ≠ gb150));replace BK150:=qK BK150 hb;clear hb hbox hg;have hnb23:=NB153_150.out;have hnc23:=NB150_153.out;have hcz24_0:=qx BK153 0;have hcz24_1:=qx BK153 1;have hcz24_2:=qx BK153 2;have hcz24_3:=qx BK153 3;have hfz24_0:=zJ BK153.out 0;have hfz24_1:=zJ BK153.out 1;have hfz24_2:=zJ BK153.out 2;have hfz24_3:=zJ BK153.out 3;have p154:0 ≤ (x24_1:Int):=qd;have q154:x24_1 < (l1.length:Int):=qd;obtain ⟨ad154,e154,hx154_0⟩:=Kd.at_int HR1.out x24_1 p154 q154;cases e154;have hn154_0:ad154.block ≠ gb153:=Nat.ne_of_lt (zS (by have:=zB _ _ hx154_0;first|rwa [add_block] at this|exact this) GW153.out);have hn154_1:ad154.block ≠ gb153:=Nat.ne_of_lt (zS (by have:=zB _ _ hx154_0;first|rwa [add_block] at this|exact this) GW153.out);have hn154_2:ad154.block ≠ gb153:=Nat.ne_of_lt (zS (by have:=zB _ _ hx154_0;first|rwa [add_block] at this|exact this) GW153.out);have hn154_3:ad154.block ≠ gb153:=Nat.ne_of_lt (zS (by have:=zB _ _ hx154_0;first|rwa [add_block] at this|exact this) GW153.out);replace hx154_0:=qy HB hx154_0;replace hx154_0:=(cell_far (p:=⟨gb153,0,none⟩) (by first|(rw [add_block];exact hn154_0)|(show (Addr.add _ _).block ≠ _;rw [add_block];exact hn154_0)|exact hn154_0) (.string ((rd_T86 l0_0 x24_1).f0))).trans hx154_0;replace hx154_0:=(cell_far (p:=⟨gb153,1,none⟩) (by first|(rw [add_block];exact hn154_1)|(show (Addr.add _ _).block ≠ _;rw [add_block];exact hn154_1)|exact hn154_1) (.int .i64 ((rd_T86 l0_0 x24_1).f1))).trans hx154_0;replace hx154_0:=(cell_far (p:=⟨gb153,2,none⟩) (by first|(rw [add_block];exact hn154_2)|(show (Addr.add _ _).block ≠ _;rw [add_block];exact hn154_2)|exact hn154_2) (.int .i64 ((rd_T86 l0_0 x24_1).f2))).trans hx154_0;replace hx154_0:=(cell_far (p:=⟨gb153,3,none⟩) (by first|(rw [add_block];exact hn154_3)|(show (Addr.add _ _).block ≠ _;rw [add_block];exact hn154_3)|exact hn154_3) (.int .i64 ((rd_T86 l0_0 x24_1).f3))).trans hx154_0;(try have hy154_0:=fun (n_:Nat)=>(show ((((((w22.drewN n_).setCell ⟨gb153,0,none⟩ (.string ((rd_T86 l0_0 x24_1).f0))).setCell ⟨gb153,1,none⟩ (.int .i64 ((rd_T86 l0_0 x24_1).f1))).setCell ⟨gb153,2,none⟩ (.int .i64 ((rd_T86 l0_0 x24_1).f2))).setCell ⟨gb153,3,none⟩ (.int .i64 ((rd_T86 l0_0 x24_1).f3)))).cell? _ = some _ from hx154_0));clear hn154_0;clear hn154_1;clear hn154_2;clear hn154_3;replace p154:=eq_true p154;replace q154:=eq_true q154;have p155:0 ≤ (x24_1:Int):=qd;have q155:x24_1 < (l1.length:Int):=qd;obtain ⟨ad155,e155,hx155_0⟩:=Kd.at_int HR1.out x24_1 p155 q155;obtain rfl:ad154 = ad155:=(by injection e155);have hn155_0:ad154.block ≠ gb153:=Nat.ne_of_lt (zS (by have:=zB _ _ hx155_0;first|rwa [add_block] at this|exact this) GW153.out);have hn155_1:ad154.block ≠ gb153:=Nat.ne_of_lt (zS (by have:=zB _ _ hx155_0;first|rwa [add_block] at this|exact this) GW153.out);have hn155_2:ad154.block ≠ gb153:=Nat.ne_of_lt (zS (by have:=zB _ _ hx155_0;first|rwa [add_block] at this|exact this) GW153.out);have hn155_3:ad154.block ≠ gb153:=Nat.ne_of_lt (zS (by have:=zB _ _ hx155_0;first|rwa [add_block] at this|exact this) GW153.out);replace hx155_0:=qy HB hx155_0;replace hx155_0:=(cell_far (p:=⟨gb153,0,none⟩) (by first|(rw [add_block];exact hn155_0)|(show (Addr.add _ _).block ≠ _;rw [add_block];exact hn155_0)|exact hn155_0) (.string ((rd_T86 l0_0 x24_1).f0))).trans hx155_0;replace hx155_0:=(cell_far (p:=⟨gb153,1,none⟩) (by first|(rw [add_block];exact hn155_1)|(show (Addr.add _ _).block ≠ _;rw [add_block];exact hn155_1)|exact hn155_1) (.int .i64 ((rd_T86 l0_0 x24_1).f1))).trans hx155_0;replace hx155_0:=(cell_far (p:=⟨gb153,2,none⟩) (by first|(rw [add_block];exact hn155_2)|(show (Addr.add _ _).block ≠ _;rw [add_block];exact hn155_2)|exact hn155_2) (.int .i64 ((rd_T86 l0_0 x24_1).f2))).trans hx155_0;replace hx155_0:=(cell_far (p:=⟨gb153,3,none⟩) (by first|(rw [add_block];exact hn155_3)|(show (Addr.add _ _).block ≠ _;rw [add_block];exact hn155_3)|exact hn155_3) (.int .i64 ((rd_T86 l0_0 x24_1).f3))).trans hx155_0;(try have hy155_0:=fun (n_:Nat)=>(show ((((((w22.drewN n_).setCell ⟨gb153,0,none⟩ (.string ((rd_T86 l0_0 x24_1).f0))).setCell ⟨gb153,1,none⟩ (.int .i64 ((rd_T86 l0_0 x24_1).f1))).setCell ⟨gb153,2,none⟩ (.int .i64 ((rd_T86 l0_0 x24_1).f2))).setCell ⟨gb153,3,none⟩ (.int .i64 ((rd_T86 l0_0 x24_1).f3)))).cell? _ = some _ from hx155_0));clear hn155_0;clear hn155_1;clear hn155_2;clear hn155_3;replace p155:=eq_true p155;replace q155:=eq_true q155;have p156:0 ≤ (x24_1:Int):=qd;have q156:x24_1 < (l1.length:Int):=qd;obtain ⟨ad156,e156,hx156_0⟩:=Kd.at_int HR1.out x24_1 p156 q156;obtain rfl:ad154 = ad156:=(by injection e156);have hn156_0:ad154.block ≠ gb153:=Nat.ne_of_lt (zS (by have:=zB _ _ hx156_0;first|rwa [add_block] at this|exact this) GW153.out);have hn156_1:ad154.block ≠ gb153:=Nat.ne_of_lt (zS (by have:=zB _ _ hx156_0;first|rwa [add_block] at this|exact this) GW153.out);have hn156_2:ad154.block ≠ gb153:=Nat.ne_of_lt (zS (by have:=zB _ _ hx156_0;first|rwa [add_block] at this|exact this) GW153.out);have hn156_3:ad154.block ≠ gb153:=Nat.ne_of_lt (zS (by have:=zB _ _ hx156_0;first|rwa [add_block] at this|exact this) GW153.out);replace hx156_0:=qy HB hx156_0;replace hx156_0:=(cell_far (p:=⟨gb153,0,none⟩) (by first|(rw [add_block];exact hn156_0)|(show (Addr.add _ _).block ≠ _;rw [add_block];exact hn156_0)|exact hn156_0) (.string ((rd_T86 l0_0 x24_1).f0))).trans hx156_0;replace hx156_0:=(cell_far (p:=⟨gb153,1,none⟩) (by first|(rw [add_block];exact hn156_1)|(show (Addr.add _ _).block ≠ _;rw [add_block];exact hn156_1)|exact hn156_1) (.int .i64 ((rd_T86 l0_0 x24_1).f1))).trans hx156_0;replace hx156_0:=(cell_far (p:=⟨gb153,2,none⟩) (by first|(rw [add_block];exact hn156_2)|(show (Addr.add _ _).block ≠ _;rw [add_block];exact hn156_2)|exact hn156_2) (.int .i64 ((rd_T86 l0_0 x24_1).f2))).trans hx156_0;replace hx156_0:=(cell_far (p:=⟨gb153,3,none⟩) (by first|(rw [add_block];exact hn156_3)|(show (Addr.add _ _).block ≠ _;rw [add_block];exact hn156_3)|exact hn156_3) (.int .i64 ((rd_T86 l0_0 x24_1).f3))).trans hx156_0;(try have hy156_0:=fun (n_:Nat)=>(show ((((((w22.drewN n_).setCell ⟨gb153,0,none⟩ (.string ((rd_T86 l0_0 x24_1).f0))).setCell ⟨gb153,1,none⟩ (.int .i64 ((rd_T86 l0_0 x24_1).f1))).setCell ⟨gb153,2,none⟩ (.int .i64 ((rd_T86 l0_0 x24_1).f2))).setCell ⟨gb153,3,none⟩ (.int .i64 ((rd_T86 l0_0 x24_1).f3)))).cell? _ = some _ from hx156_0));clear hn156_0;clear hn156_1;clear hn156_2;clear hn156_3;replace p156:=eq_true p156;replace q156:=eq_true q156))
           repeat (go_quiet (first|((with_reducible refine zV (N:=9) rfl ?_);refine bq 9 (cs:=#[.string (⟨#[]⟩:ByteArray),.int .i64 0,.int .i64 0,.int .i64 0]) (t:=86) ?_;intro gb153 hg w22 hbox hb;have BK153:=zA (hbox);have GW153:=zA (qg hg);have GE153:=zA (qg hg);replace HB:=zA (zH qb hb);have NB150_153:=zA ((by rw [hg];exact Nat.ne_of_lt (blk_lt (g:=gb150) (o:=.cells #[.slice (some ad152) l0_0.length c0_0,.slice A0_1 l0_1.length c0_1] 44 (0,0)) (qk BK150)):gb150 ≠ gb153));have NB153_150:=zA ((by rw [hg];exact Nat.ne_of_gt (blk_lt (g:=gb150) (o:=.cells #[.slice (some ad152) l0_0.length c0_0,.slice A0_1 l0_1.length c0_1] 44 (0,0)) (qk BK150)):gb153 ≠ gb150));replace BK150:=qK BK150 hb;clear hb hbox hg;have hnb23:=NB153_150.out;have hnc23:=NB150_153.out;have hcz24_0:=qx BK153 0;have hcz24_1:=qx BK153 1;have hcz24_2:=qx BK153 2;have hcz24_3:=qx BK153 3;have hfz24_0:=zJ BK153.out 0;have hfz24_1:=zJ BK153.out 1;have hfz24_2:=zJ BK153.out 2;have hfz24_3:=zJ BK153.out 3;have p154:0 ≤ (x24_1:Int):=qd;have q154:x24_1 < (l1.length:Int):=qd;obtain ⟨ad154,e154,hx154_0⟩:=Kd.at_int HR1.out x24_1 p154 q154;cases e154;have hn154_0:ad154.block ≠ gb153:=Nat.ne_of_lt (zS (by have:=zB _ _ hx154_0;first|rwa [add_block] at this|exact this) GW153.out);have hn154_1:ad154.block ≠ gb153:=Nat.ne_of_lt (zS (by have:=zB _ _ hx154_0;first|rwa [add_block] at this|exact this) GW153.out);have hn154_2:ad154.block ≠ gb153:=Nat.ne_of_lt (zS (by have:=zB _ _ hx154_0;first|rwa [add_block] at this|exact this) GW153.out);have hn154_3:ad154.block ≠ gb153:=Nat.ne_of_lt (zS (by have:=zB _ _ hx154_0;first|rwa [add_block] at this|exact this) GW153.out);replace hx154_0:=qy HB hx154_0;replace hx154_0:=(cell_far (p:=⟨gb153,0,none⟩) (by first|(rw [add_block];exact hn154_0)|(show (Addr.add _ _).block ≠ _;rw [add_block];exact hn154_0)|exact hn154_0) (.string ((rd_T86 l0_0 x24_1).f0))).trans hx154_0;replace hx154_0:=(cell_far (p:=⟨gb153,1,none⟩) (by first|(rw [add_block];exact hn154_1)|(show (Addr.add _ _).block ≠ _;rw [add_block];exact hn154_1)|exact hn154_1) (.int .i64 ((rd_T86 l0_0 x24_1).f1))).trans hx154_0;replace hx154_0:=(cell_far (p:=⟨gb153,2,none⟩) (by first|(rw [add_block];exact hn154_2)|(show (Addr.add _ _).block ≠ _;rw [add_block];exact hn154_2)|exact hn154_2) (.int .i64 ((rd_T86 l0_0 x24_1).f2))).trans hx154_0;replace hx154_0:=(cell_far (p:=⟨gb153,3,none⟩) (by first|(rw [add_block];exact hn154_3)|(show (Addr.add _ _).block ≠ _;rw [add_block];exact hn154_3)|exact hn154_3) (.int .i64 ((rd_T86 l0_0 x24_1).f3))).trans hx154_0;(try have hy154_0:=fun (n_:Nat)=>(show ((((((w22.drewN n_).setCell ⟨gb153,0,none⟩ (.string ((rd_T86 l0_0 x24_1).f0))).setCell ⟨gb153,1,none⟩ (.int .i64 ((rd_T86 l0_0 x24_1).f1))).setCell ⟨gb153,2,none⟩ (.int .i64 ((rd_T86 l0_0 x24_1).f2))).setCell ⟨gb153,3,none⟩ (.int .i64 ((rd_T86 l0_0 x24_1).f3)))).cell? _ = some _ from hx154_0));clear hn154_0;clear hn154_1;clear hn154_2;clear hn154_3;replace p154:=eq_true p154;replace q154:=eq_true q154;have p155:0 ≤ (x24_1:Int):=qd;have q155:x24_1 < (l1.length:Int):=qd;obtain ⟨ad155,e155,hx155_0⟩:=Kd.at_int HR1.out x24_1 p155 q155;obtain rfl:ad154 = ad155:=(by injection e155);have hn155_0:ad154.block ≠ gb153:=Nat.ne_of_lt (zS (by have:=zB _ _ hx155_0;first|rwa [add_block] at this|exact this) GW153.out);have hn155_1:ad154.block ≠ gb153:=Nat.ne_of_lt (zS (by have:=zB _ _ hx155_0;first|rwa [add_block] at this|exact this) GW153.out);have hn155_2:ad154.block ≠ gb153:=Nat.ne_of_lt (zS (by have:=zB _ _ hx155_0;first|rwa [add_block] at this|exact this) GW153.out);have hn155_3:ad154.block ≠ gb153:=Nat.ne_of_lt (zS (by have:=zB _ _ hx155_0;first|rwa [add_block] at this|exact this) GW153.out);replace hx155_0:=qy HB hx155_0;replace hx155_0:=(cell_far (p:=⟨gb153,0,none⟩) (by first|(rw [add_block];exact hn155_0)|(show (Addr.add _ _).block ≠ _;rw [add_block];exact hn155_0)|exact hn155_0) (.string ((rd_T86 l0_0 x24_1).f0))).trans hx155_0;replace hx155_0:=(cell_far (p:=⟨gb153,1,none⟩) (by first|(rw [add_block];exact hn155_1)|(show (Addr.add _ _).block ≠ _;rw [add_block];exact hn155_1)|exact hn155_1) (.int .i64 ((rd_T86 l0_0 x24_1).f1))).trans hx155_0;replace hx155_0:=(cell_far (p:=⟨gb153,2,none⟩) (by first|(rw [add_block];exact hn155_2)|(show (Addr.add _ _).block ≠ _;rw [add_block];exact hn155_2)|exact hn155_2) (.int .i64 ((rd_T86 l0_0 x24_1).f2))).trans hx155_0;replace hx155_0:=(cell_far (p:=⟨gb153,3,none⟩) (by first|(rw [add_block];exact hn155_3)|(show (Addr.add _ _).block ≠ _;rw [add_block];exact hn155_3)|exact hn155_3) (.int .i64 ((rd_T86 l0_0 x24_1).f3))).trans hx155_0;(try have hy155_0:=fun (n_:Nat)=>(show ((((((w22.drewN n_).setCell ⟨gb153,0,none⟩ (.string ((rd_T86 l0_0 x24_1).f0))).setCell ⟨gb153,1,none⟩ (.int .i64 ((rd_T86 l0_0 x24_1).f1))).setCell ⟨gb153,2,none⟩ (.int .i64 ((rd_T86 l0_0 x24_1).f2))).setCell ⟨gb153,3,none⟩ (.int .i64 ((rd_T86 l0_0 x24_1).f3)))).cell? _ = some _ from hx155_0));clear hn155_0;clear hn155_1;clear hn155_2;clear hn155_3;replace p155:=eq_true p155;replace q155:=eq_true q155;have p156:0 ≤ (x24_1:Int):=qd;have q156:x24_1 < (l1.length:Int):=qd;obtain ⟨ad156,e156,hx156_0⟩:=Kd.at_int HR1.out x24_1 p156 q156;obtain rfl:ad154 = ad156:=(by injection e156);have hn156_0:ad154.block ≠ gb153:=Nat.ne_of_lt (zS (by have:=zB _ _ hx156_0;first|rwa [add_block] at this|exact this) GW153.out);have hn156_1:ad154.block ≠ gb153:=Nat.ne_of_lt (zS (by have:=zB _ _ hx156_0;first|rwa [add_block] at this|exact this) GW153.out);have hn156_2:ad154.block ≠ gb153:=Nat.ne_of_lt (zS (by have:=zB _ _ hx156_0;first|rwa [add_block] at this|exact this) GW153.out);have hn156_3:ad154.block ≠ gb153:=Nat.ne_of_lt (zS (by have:=zB _ _ hx156_0;first|rwa [add_block] at this|exact this) GW153.out);replace hx156_0:=qy HB hx156_0;replace hx156_0:=(cell_far (p:=⟨gb153,0,none⟩) (by first|(rw [add_block];exact hn156_0)|(show (Addr.add _ _).block ≠ _;rw [add_block];exact hn156_0)|exact hn156_0) (.string ((rd_T86 l0_0 x24_1).f0))).trans hx156_0;replace hx156_0:=(cell_far (p:=⟨gb153,1,none⟩) (by first|(rw [add_block];exact hn156_1)|(show (Addr.add _ _).block ≠ _;rw [add_block];exact hn156_1)|exact hn156_1) (.int .i64 ((rd_T86 l0_0 x24_1).f1))).trans hx156_0;replace hx156_0:=(cell_far (p:=⟨gb153,2,none⟩) (by first|(rw [add_block];exact hn156_2)|(show (Addr.add _ _).block ≠ _;rw [add_block];exact hn156_2)|exact hn156_2) (.int .i64 ((rd_T86 l0_0 x24_1).f2))).trans hx156_0;replace hx156_0:=(cell_far (p:=⟨gb153,3,none⟩) (by first|(rw [add_block];exact hn156_3)|(show (Addr.add _ _).block ≠ _;rw [add_block];exact hn156_3)|exact hn156_3) (.int .i64 ((rd_T86 l0_0 x24_1).f3))).trans hx156_0;(try have hy156_0:=fun (n_:Nat)=>(show ((((((w22.drewN n_).setCell ⟨gb153,0,none⟩ (.string ((rd_T86 l0_0 x24_1).f0))).setCell ⟨gb153,1,none⟩ (.int .i64 ((rd_T86 l0_0 x24_1).f1))).setCell ⟨gb153,2,none⟩ (.int .i64 ((rd_T86 l0_0 x24_1).f2))).setCell ⟨gb153,3,none⟩ (.int .i64 ((rd_T86 l0_0 x24_1).f3)))).cell? _ = some _ from hx156_0));clear hn156_0;clear hn156_1;clear hn156_2;clear hn156_3;replace p156:=eq_true p156;replace q156:=eq_true q156));try go_wp2_with (first|((with_reducible refine zV (N:=9) rfl ?_);refine bq 9 (cs:=#[.string (⟨#[]⟩:ByteArray),.int .i64 0,.int .i64 0,.int .i64 0]) (t:=86) ?_;intro gb153 hg w22 hbox hb;have BK153:=zA (hbox);have GW153:=zA (qg hg);have GE153:=zA (qg hg);replace HB:=zA (zH qb hb);have NB150_153:=zA ((by rw [hg];exact Nat.ne_of_lt (blk_lt (g:=gb150) (o:=.cells #[.slice (some ad152) l0_0.length c0_0,.slice A0_1 l0_1.length c0_1] 44 (0,0)) (qk BK150)):gb150 ≠ gb153));have NB153_150:=zA ((by rw [hg];exact Nat.ne_of_gt (blk_lt (g:=gb150) (o:=.cells #[.slice (some ad152) l0_0.length c0_0,.slice A0_1 l0_1.length c0_1] 44 (0,0)) (qk BK150)):gb153 ≠ gb150));replace BK150:=qK BK150 hb;clear hb hbox hg;have hnb23:=NB153_150.out;have hnc23:=NB150_153.out;have hcz24_0:=qx BK153 0;have hcz24_1:=qx BK153 1;have hcz24_2:=qx BK153 2;have hcz24_3:=qx BK153 3;have hfz24_0:=zJ BK153.out 0;have hfz24_1:=zJ BK153.out 1;have hfz24_2:=zJ BK153.out 2;have hfz24_3:=zJ BK153.out 3;have p154:0 ≤ (x24_1:Int):=qd;have q154:x24_1 < (l1.length:Int):=qd;obtain ⟨ad154,e154,hx154_0⟩:=Kd.at_int HR1.out x24_1 p154 q154;cases e154;have hn154_0:ad154.block ≠ gb153:=Nat.ne_of_lt (zS (by have:=zB _ _ hx154_0;first|rwa [add_block] at this|exact this) GW153.out);have hn154_1:ad154.block ≠ gb153:=Nat.ne_of_lt (zS (by have:=zB _ _ hx154_0;first|rwa [add_block] at this|exact this) GW153.out);have hn154_2:ad154.block ≠ gb153:=Nat.ne_of_lt (zS (by have:=zB _ _ hx154_0;first|rwa [add_block] at this|exact this) GW153.out);have hn154_3:ad154.block ≠ gb153:=Nat.ne_of_lt (zS (by have:=zB _ _ hx154_0;first|rwa [add_block] at this|exact this) GW153.out);replace hx154_0:=qy HB hx154_0;replace hx154_0:=(cell_far (p:=⟨gb153,0,none⟩) (by first|(rw [add_block];exact hn154_0)|(show (Addr.add _ _).block ≠ _;rw [add_block];exact hn154_0)|exact hn154_0) (.string ((rd_T86 l0_0 x24_1).f0))).trans hx154_0;replace hx154_0:=(cell_far (p:=⟨gb153,1,none⟩) (by first|(rw [add_block];exact hn154_1)|(show (Addr.add _ _).block ≠ _;rw [add_block];exact hn154_1)|exact hn154_1) (.int .i64 ((rd_T86 l0_0 x24_1).f1))).trans hx154_0;replace hx154_0:=(cell_far (p:=⟨gb153,2,none⟩) (by first|(rw [add_block];exact hn154_2)|(show (Addr.add _ _).block ≠ _;rw [add_block];exact hn154_2)|exact hn154_2) (.int .i64 ((rd_T86 l0_0 x24_1).f2))).trans hx154_0;replace hx154_0:=(cell_far (p:=⟨gb153,3,none⟩) (by first|(rw [add_block];exact hn154_3)|(show (Addr.add _ _).block ≠ _;rw [add_block];exact hn154_3)|exact hn154_3) (.int .i64 ((rd_T86 l0_0 x24_1).f3))).trans hx154_0;(try have hy154_0:=fun (n_:Nat)=>(show ((((((w22.drewN n_).setCell ⟨gb153,0,none⟩ (.string ((rd_T86 l0_0 x24_1).f0))).setCell ⟨gb153,1,none⟩ (.int .i64 ((rd_T86 l0_0 x24_1).f1))).setCell ⟨gb153,2,none⟩ (.int .i64 ((rd_T86 l0_0 x24_1).f2))).setCell ⟨gb153,3,none⟩ (.int .i64 ((rd_T86 l0_0 x24_1).f3)))).cell? _ = some _ from hx154_0));clear hn154_0;clear hn154_1;clear hn154_2;clear hn154_3;replace p154:=eq_true p154;replace q154:=eq_true q154;have p155:0 ≤ (x24_1:Int):=qd;have q155:x24_1 < (l1.length:Int):=qd;obtain ⟨ad155,e155,hx155_0⟩:=Kd.at_int HR1.out x24_1 p155 q155;obtain rfl:ad154 = ad155:=(by injection e155);have hn155_0:ad154.block ≠ gb153:=Nat.ne_of_lt (zS (by have:=zB _ _ hx155_0;first|rwa [add_block] at this|exact this) GW153.out);have hn155_1:ad154.block ≠ gb153:=Nat.ne_of_lt (zS (by have:=zB _ _ hx155_0;first|rwa [add_block] at this|exact this) GW153.out);have hn155_2:ad154.block ≠ gb153:=Nat.ne_of_lt (zS (by have:=zB _ _ hx155_0;first|rwa [add_block] at this|exact this) GW153.out);have hn155_3:ad154.block ≠ gb153:=Nat.ne_of_lt (zS (by have:=zB _ _ hx155_0;first|rwa [add_block] at this|exact this) GW153.out);replace hx155_0:=qy HB hx155_0;replace hx155_0:=(cell_far (p:=⟨gb153,0,none⟩) (by first|(rw [add_block];exact hn155_0)|(show (Addr.add _ _).block ≠ _;rw [add_block];exact hn155_0)|exact hn155_0) (.string ((rd_T86 l0_0 x24_1).f0))).trans hx155_0;replace hx155_0:=(cell_far (p:=⟨gb153,1,none⟩) (by first|(rw [add_block];exact hn155_1)|(show (Addr.add _ _).block ≠ _;rw [add_block];exact hn155_1)|exact hn155_1) (.int .i64 ((rd_T86 l0_0 x24_1).f1))).trans hx155_0;replace hx155_0:=(cell_far (p:=⟨gb153,2,none⟩) (by first|(rw [add_block];exact hn155_2)|(show (Addr.add _ _).block ≠ _;rw [add_block];exact hn155_2)|exact hn155_2) (.int .i64 ((rd_T86 l0_0 x24_1).f2))).trans hx155_0;replace hx155_0:=(cell_far (p:=⟨gb153,3,none⟩) (by first|(rw [add_block];exact hn155_3)|(show (Addr.add _ _).block ≠ _;rw [add_block];exact hn155_3)|exact hn155_3) (.int .i64 ((rd_T86 l0_0 x24_1).f3))).trans hx155_0;(try have hy155_0:=fun (n_:Nat)=>(show ((((((w22.drewN n_).setCell ⟨gb153,0,none⟩ (.string ((rd_T86 l0_0 x24_1).f0))).setCell ⟨gb153,1,none⟩ (.int .i64 ((rd_T86 l0_0 x24_1).f1))).setCell ⟨gb153,2,none⟩ (.int .i64 ((rd_T86 l0_0 x24_1).f2))).setCell ⟨gb153,3,none⟩ (.int .i64 ((rd_T86 l0_0 x24_1).f3)))).cell? _ = some _ from hx155_0));clear hn155_0;clear hn155_1;clear hn155_2;clear hn155_3;replace p155:=eq_true p155;replace q155:=eq_true q155;have p156:0 ≤ (x24_1:Int):=qd;have q156:x24_1 < (l1.length:Int):=qd;obtain ⟨ad156,e156,hx156_0⟩:=Kd.at_int HR1.out x24_1 p156 q156;obtain rfl:ad154 = ad156:=(by injection e156);have hn156_0:ad154.block ≠ gb153:=Nat.ne_of_lt (zS (by have:=zB _ _ hx156_0;first|rwa [add_block] at this|exact this) GW153.out);have hn156_1:ad154.block ≠ gb153:=Nat.ne_of_lt (zS (by have:=zB _ _ hx156_0;first|rwa [add_block] at this|exact this) GW153.out);have hn156_2:ad154.block ≠ gb153:=Nat.ne_of_lt (zS (by have:=zB _ _ hx156_0;first|rwa [add_block] at this|exact this) GW153.out);have hn156_3:ad154.block ≠ gb153:=Nat.ne_of_lt (zS (by have:=zB _ _ hx156_0;first|rwa [add_block] at this|exact this) GW153.out);replace hx156_0:=qy HB hx156_0;replace hx156_0:=(cell_far (p:=⟨gb153,0,none⟩) (by first|(rw [add_block];exact hn156_0)|(show (Addr.add _ _).block ≠ _;rw [add_block];exact hn156_0)|exact hn156_0) (.string ((rd_T86 l0_0 x24_1).f0))).trans hx156_0;replace hx156_0:=(cell_far (p:=⟨gb153,1,none⟩) (by first|(rw [add_block];exact hn156_1)|(show (Addr.add _ _).block ≠ _;rw [add_block];exact hn156_1)|exact hn156_1) (.int .i64 ((rd_T86 l0_0 x24_1).f1))).trans hx156_0;replace hx156_0:=(cell_far (p:=⟨gb153,2,none⟩) (by first|(rw [add_block];exact hn156_2)|(show (Addr.add _ _).block ≠ _;rw [add_block];exact hn156_2)|exact hn156_2) (.int .i64 ((rd_T86 l0_0 x24_1).f2))).trans hx156_0;replace hx156_0:=(cell_far (p:=⟨gb153,3,none⟩) (by first|(rw [add_block];exact hn156_3)|(show (Addr.add _ _).block ≠ _;rw [add_block];exact hn156_3)|exact hn156_3) (.int .i64 ((rd_T86 l0_0 x24_1).f3))).trans hx156_0;(try have hy156_0:=fun (n_:Nat)=>(show ((((((w22.drewN n_).setCell ⟨gb153,0,none⟩ (.string ((rd_T86 l0_0 x24_1).f0))).setCell ⟨gb153,1,none⟩ (.int .i64 ((rd_T86 l0_0 x24_1).f1))).setCell ⟨gb153,2,none⟩ (.int .i64 ((rd_T86 l0_0 x24_1).f2))).setCell ⟨gb153,3,none⟩ (.int .i64 ((rd_T86 l0_0 x24_1).f3)))).cell? _ = some _ from hx156_0));clear hn156_0;clear hn156_1;clear hn156_2;clear hn156_3;replace p156:=eq_true p156;replace q156:=eq_true q156)))
           go_roundg k1
           case measure=>have:=HK1.out;omega
           case rel=>exact ⟨(wrap64 ((wrap64 ((wrap64 (x7_1 * (wrap64 ((wrap64 (((rd_T86 l0_0 x24_1).f2) - ((rd_T86 l0_0 x24_1).f1))) + 1)))) + (rd l1 x24_1))) - ((rd_T86 l0_0 x24_1).f1))),(wrap64 (x24_1 + 1)),qr,qr,H',⟨qo HK1⟩,⟨by (with_reducible repeat (first|refine zL ?_ _|refine zM ?_|refine zK ?_ _));refine blk_far ?_ NB150_153.out _;(with_reducible repeat (first|refine zL ?_ _|refine zM ?_|refine zK ?_ _));refine blk_far ?_ NB150_153.out _;(with_reducible repeat (first|refine zL ?_ _|refine zM ?_|refine zK ?_ _));refine blk_far ?_ NB150_153.out _;(with_reducible repeat (first|refine zL ?_ _|refine zM ?_|refine zK ?_ _));refine blk_far ?_ NB150_153.out _;(with_reducible repeat (first|refine zL ?_ _|refine zM ?_|refine zK ?_ _));exact BK150.out⟩,⟨qb⟩⟩
        ·exact absurd H (by simp)
       ·exact absurd H (by simp)
      ·exact absurd H (by simp)
     ·simp only [Option.some.injEq,Prod.mk.injEq] at H
      obtain ⟨rfl,rfl⟩:=H
      go_wp2
      repeat (go_quiet (fail);try go_wp2)
      go_ret2
      exact ⟨qe,qb⟩
  ·rw [if_neg c5] at H
   have c5b0:((l1.length:Int) == (l0_0.length:Int)) = false:=beq_eq_false_iff_ne.mpr c5
   have c5b1:((l1.length:Int) != (l0_0.length:Int)) = true:=bne_iff_ne.mpr c5
   have c5b2:(l1.length == l0_0.length) = false:=by first|simpa using c5|(simp at c5 ⊢;omega)
   simp only [Option.some.injEq,Prod.mk.injEq] at H
   obtain ⟨rfl,rfl⟩:=H
   go_enter Tryd.func52,Tryd.ntmps52
   go_wp2_with (first|((with_reducible refine zV (N:=2) rfl ?_);refine bq 2 (cs:=#[.slice A0_0 l0_0.length c0_0,.slice A0_1 l0_1.length c0_1]) (t:=44) ?_;intro gb150 hg w25 hbox hb;have BK150:=zA (hbox);have GW150:=zA (qg hg);have GE150:=zA (qg hg);replace HB:=zA (zH qb hb);clear hb hbox hg;have hcz26_0:=qx BK150 0;have hcz26_1:=qx BK150 1;have hfz26_0:=zJ BK150.out 0;have hfz26_1:=zJ BK150.out 1)|(go_at_call 78;(with_reducible refine (model_Check.calls k _ _ l0_0 _ _ l0_1 t151 _ (qc HR0_0) HC0_0.out (qc HR0_1) HC0_1.out qD A3.out).mono ?_);rintro e w27 ⟨rfl,hb⟩;replace BK150:=qK BK150 hb;replace HB:=zA (zH qb hb);clear hb;have hcz28_0:=qx BK150 0;have hcz28_1:=qx BK150 1;have hfz28_0:=zJ BK150.out 0;have hfz28_1:=zJ BK150.out 1))
   repeat (go_quiet (first|((with_reducible refine zV (N:=2) rfl ?_);refine bq 2 (cs:=#[.slice A0_0 l0_0.length c0_0,.slice A0_1 l0_1.length c0_1]) (t:=44) ?_;intro gb150 hg w25 hbox hb;have BK150:=zA (hbox);have GW150:=zA (qg hg);have GE150:=zA (qg hg);replace HB:=zA (zH qb hb);clear hb hbox hg;have hcz26_0:=qx BK150 0;have hcz26_1:=qx BK150 1;have hfz26_0:=zJ BK150.out 0;have hfz26_1:=zJ BK150.out 1)|(go_at_call 78;(with_reducible refine (model_Check.calls k _ _ l0_0 _ _ l0_1 t151 _ (qc HR0_0) HC0_0.out (qc HR0_1) HC0_1.out qD A3.out).mono ?_);rintro e w27 ⟨rfl,hb⟩;replace BK150:=qK BK150 hb;replace HB:=zA (zH qb hb);clear hb;have hcz28_0:=qx BK150 0;have hcz28_1:=qx BK150 1;have hfz28_0:=zJ BK150.out 0;have hfz28_1:=zJ BK150.out 1));try go_wp2_with (first|((with_reducible refine zV (N:=2) rfl ?_);refine bq 2 (cs:=#[.slice A0_0 l0_0.length c0_0,.slice A0_1 l0_1.length c0_1]) (t:=44) ?_;intro gb150 hg w25 hbox hb;have BK150:=zA (hbox);have GW150:=zA (qg hg);have GE150:=zA (qg hg);replace HB:=zA (zH qb hb);clear hb hbox hg;have hcz26_0:=qx BK150 0;have hcz26_1:=qx BK150 1;have hfz26_0:=zJ BK150.out 0;have hfz26_1:=zJ BK150.out 1)|(go_at_call 78;(with_reducible refine (model_Check.calls k _ _ l0_0 _ _ l0_1 t151 _ (qc HR0_0) HC0_0.out (qc HR0_1) HC0_1.out qD A3.out).mono ?_);rintro e w27 ⟨rfl,hb⟩;replace BK150:=qK BK150 hb;replace HB:=zA (zH qb hb);clear hb;have hcz28_0:=qx BK150 0;have hcz28_1:=qx BK150 1;have hfz28_0:=zJ BK150.out 0;have hfz28_1:=zJ BK150.out 1)))
   go_ret2
   exact ⟨qe,qb⟩
 ·rw [if_neg c4] at H
  have c4b0:(t151 == 0) = false:=beq_eq_false_iff_ne.mpr c4
  have c4b1:(t151 != 0) = true:=bne_iff_ne.mpr c4
  simp only [Option.some.injEq,Prod.mk.injEq] at H
  obtain ⟨rfl,rfl⟩:=H
  go_enter Tryd.func52,Tryd.ntmps52
  go_wp2_with (first|((with_reducible refine zV (N:=2) rfl ?_);refine bq 2 (cs:=#[.slice A0_0 l0_0.length c0_0,.slice A0_1 l0_1.length c0_1]) (t:=44) ?_;intro gb150 hg w29 hbox hb;have BK150:=zA (hbox);have GW150:=zA (qg hg);have GE150:=zA (qg hg);replace HB:=zA (zH qb hb);clear hb hbox hg;have hcz30_0:=qx BK150 0;have hcz30_1:=qx BK150 1;have hfz30_0:=zJ BK150.out 0;have hfz30_1:=zJ BK150.out 1)|(go_at_call 78;(with_reducible refine (model_Check.calls k _ _ l0_0 _ _ l0_1 t151 _ (qc HR0_0) HC0_0.out (qc HR0_1) HC0_1.out qD A3.out).mono ?_);rintro e w31 ⟨rfl,hb⟩;replace BK150:=qK BK150 hb;replace HB:=zA (zH qb hb);clear hb))
  repeat (go_quiet (first|((with_reducible refine zV (N:=2) rfl ?_);refine bq 2 (cs:=#[.slice A0_0 l0_0.length c0_0,.slice A0_1 l0_1.length c0_1]) (t:=44) ?_;intro gb150 hg w29 hbox hb;have BK150:=zA (hbox);have GW150:=zA (qg hg);have GE150:=zA (qg hg);replace HB:=zA (zH qb hb);clear hb hbox hg;have hcz30_0:=qx BK150 0;have hcz30_1:=qx BK150 1;have hfz30_0:=zJ BK150.out 0;have hfz30_1:=zJ BK150.out 1)|(go_at_call 78;(with_reducible refine (model_Check.calls k _ _ l0_0 _ _ l0_1 t151 _ (qc HR0_0) HC0_0.out (qc HR0_1) HC0_1.out qD A3.out).mono ?_);rintro e w31 ⟨rfl,hb⟩;replace BK150:=qK BK150 hb;replace HB:=zA (zH qb hb);clear hb));try go_wp2_with (first|((with_reducible refine zV (N:=2) rfl ?_);refine bq 2 (cs:=#[.slice A0_0 l0_0.length c0_0,.slice A0_1 l0_1.length c0_1]) (t:=44) ?_;intro gb150 hg w29 hbox hb;have BK150:=zA (hbox);have GW150:=zA (qg hg);have GE150:=zA (qg hg);replace HB:=zA (zH qb hb);clear hb hbox hg;have hcz30_0:=qx BK150 0;have hcz30_1:=qx BK150 1;have hfz30_0:=zJ BK150.out 0;have hfz30_1:=zJ BK150.out 1)|(go_at_call 78;(with_reducible refine (model_Check.calls k _ _ l0_0 _ _ l0_1 t151 _ (qc HR0_0) HC0_0.out (qc HR0_1) HC0_1.out qD A3.out).mono ?_);rintro e w31 ⟨rfl,hb⟩;replace BK150:=qK BK150 hb;replace HB:=zA (zH qb hb);clear hb)))
  go_ret2
  exact ⟨qe,qb⟩
end Go.Proofs.YthffpjkkmkjplaaDoor.S
namespace Go.Proofs.YthffpjkkmkjplaaDoor.S
open Go.Proofs.YthffpjkkmkjplaaDoor.Al
open Option renaming bind_eq_some_iff → zb
open Go.Proofs.YthffpjkkmkjplaaDoorW.PrintWords renaming below_step → zH, blk_frozen → zJ, blk_alloc → zK, blk_drewN → zL, blk_drew → zM, blk_put → zO, gate_callee → zU, gate_dst → zV
open Go.Proofs.YthffpjkkmkjplaaDoor.Sq
open Go.RowKit Go.Proofs.YthffpjkkmkjplaaDoorW.PrintWords Go.Proofs.YthffpjkkmkjplaaDoorW.PrintLast Go.Proofs.YthffpjkkmkjplaaDoorW.PrintMore
attribute [local go_sem] max2_int min2_int max_two min_two max_three min_three max_four min_four
set_option linter.unusedVariables false
set_option linter.unusedSimpArgs false
def model_First.l0:Nat → List Int → List (S86) → Int → Int → List (S86) → List (S93) → Option (Int × Int)
 | 0,_,_,_,_,_,_=>none
 | k + 1,x4,x8,x9,x10,x158000,x158001=>if x10 < x9 then (if 0 ≤ x10 then (if x10 < (x8.length:Int) then (if x4.length < 17592186044416 then (model_First.l0 k (x4 ++ [(rd_T86 x8 x10).f3]) x8 x9 (wrap64 (x10 + 1)) x158000 x158001) else (none)) else (none)) else (none)) else ((model_Code.f k x158000 x158001 x4).bind fun bt163=>(some (bt163.1,bt163.2)))
def model_First.f (k:Nat) (l0_0:List (S86)) (l0_1:List (S93)):Option (Int × Int):=model_First.l0 k ([]:List Int) l0_0 (l0_0.length:Int) 0 l0_0 l0_1
theorem model_First.mono_l:∀ k,(∀ y0 y1 y2 y3 y4 y5,LeO (model_First.l0 k y0 y1 y2 y3 y4 y5) (model_First.l0 (k + 1) y0 y1 y2 y3 y4 y5))
 | 0=>fun _ _ _ _ _ _ r h=>by simp [model_First.l0] at h
 | k + 1=>by
  have ih0:=model_First.mono_l k
  ·intro y0 y1 y2 y3 y4 y5
   unfold model_First.l0
   exact qM @model_Code.mono
theorem model_First.mono:∀ a0 a1 k,LeO (model_First.f k a0 a1) (model_First.f (k + 1) a0 a1):=by
 intro a0 a1 k
 have ih0:=model_First.mono_l k
 unfold model_First.f
 exact qM @model_Code.mono
set_option maxHeartbeats 8000000 in
set_option maxRecDepth 100000 in
theorem model_First.calls (k:Nat) (A0_0:Option Addr) (c0_0:Nat) (l0_0:List (S86)) (A0_1:Option Addr) (c0_1:Nat) (l0_1:List (S93)) (r1:Int) (r2:Int) (w:World) (hr0_0:Kd.C k86 w A0_0 l0_0.length l0_0) (hc0_0:l0_0.length ≤ c0_0) (hr0_1:Kd.C k93 w A0_1 l0_1.length l0_1) (hc0_1:l0_1.length ≤ c0_1) (hL:LaidG w) (h:model_First.f k l0_0 l0_1 = some (r1,r2)) :
  Calls Tryd.prog 29 #[.agg #[.slice A0_0 l0_0.length c0_0,.slice A0_1 l0_1.length c0_1]] w fun e w'=>e = .returned (.tuple #[.int .i64 r1,.int .i64 r2])∧Below w.heap.size w w':=by
 have HLd:=zA hL
 clear hL
 have hu44:=Tryd.underlying44
 have hu86:=Tryd.underlying86
 have HR0_0:=zA hr0_0
 have HC0_0:=zA hc0_0
 clear hr0_0 hc0_0
 have HR0_1:=zA hr0_1
 have HC0_1:=zA hc0_1
 clear hr0_1 hc0_1
 have HB:=zA (Below.refl w.heap.size w)
 have H:(model_First.l0 k ([]:List Int) l0_0 (l0_0.length:Int) 0 l0_0 l0_1) = some (r1,r2):=h
 clear h
 have H':=zA H
 clear H
 go_enter Tryd.func29,Tryd.ntmps29
 go_wp2_with (first|((with_reducible refine zV (N:=1) rfl ?_);refine bq 1 (cs:=#[.slice A0_0 l0_0.length c0_0,.slice A0_1 l0_1.length c0_1]) (t:=44) ?_;intro gb157 hg w2 hbox hb;have BK157:=zA (hbox);have GW157:=zA (qg hg);have GE157:=zA (qg hg);replace HB:=zA (zH qb hb);clear hb hbox hg;have hcz3_0:=qx BK157 0;have hcz3_1:=qx BK157 1;have hfz3_0:=zJ BK157.out 0;have hfz3_1:=zJ BK157.out 1))
 go_loopg [4,10] k (fun kq v4 v10 w'=>∃ (x4_1:List Int) (x10_1:Int),v10 = .int .i64 x10_1∧Aside0 (model_First.l0 kq x4_1 l0_0 (l0_0.length:Int) x10_1 l0_0 l0_1 = some (r1,r2))∧Aside0 (kq ≤ k)∧Aside0 (Kd.R (Kd.int .i64) 3 w' w.heap.size (fun _=>True) v4 x4_1)∧Aside0 (w'.heap[gb157]? = some (.cells #[(.slice A0_0 l0_0.length c0_0),(.slice A0_1 l0_1.length c0_1)] 44 (0,0)))∧Aside0 (Below w.heap.size w w'))
 case atStart=>exact ⟨(([]:List Int)),(0),qr,H',⟨Nat.le_refl _⟩,⟨ql⟩,⟨qk BK157⟩,⟨qb⟩⟩
 case round =>
  clear H'
  try clear c2
  try clear p2
  try clear hcz3_0
  try clear hcz3_1
  try clear hfz3_0
  try clear hfz3_1
  obtain ⟨x4_1,x10_1,rfl,HA,HK1,HO_4,BK157,HB⟩:=hrel
  cases gk with
  | zero=>exact absurd HA.out (by simp [model_First.l0])
  | succ k1 =>
   have H:=HA.out
   clear HA
   simp only [model_First.l0] at H
   rcases qj H with ⟨c4b0,H⟩|⟨c4b0,H⟩
   ·rcases qj H with ⟨c5b0,H⟩|⟨c5,H⟩
    ·rcases qj H with ⟨c6b0,H⟩|⟨c6,H⟩
     ·by_cases c7:x4_1.length < 17592186044416
      ·rw [if_pos c7] at H
       have LMc7:=zA c7
       clear c7
       obtain ⟨y160,hy160⟩:∃ y_:List Int,y_ = (x4_1 ++ [(rd_T86 l0_0 x10_1).f3]):=⟨_,rfl⟩
       replace H:(model_First.l0 k1 y160 l0_0 (l0_0.length:Int) (wrap64 (x10_1 + 1)) l0_0 l0_1) = some (r1,r2):=by first|(rw [hy160];with_reducible exact H)|(have H2_:=(Option.bind_some _ _).symm.trans H;rw [hy160];with_reducible exact H2_)|(have H2_:=(Option.bind_some _ _).symm.trans H;with_reducible exact H2_)|with_reducible exact H|(rw [hy160];exact H)|exact H
       have Ny160:=zA hy160
       clear hy160
       have H':=zA H
       clear H
       have p158:0 ≤ (x10_1:Int):=qd
       have q158:x10_1 < (l0_0.length:Int):=qd
       obtain ⟨ad158,e158,hx158_0,hx158_1,hx158_2,hx158_3⟩:=at_T86 HR0_0.out x10_1 p158 q158
       cases e158
       replace hx158_0:=qy HB hx158_0
       replace hx158_1:=qy HB hx158_1
       replace hx158_2:=qy HB hx158_2
       replace hx158_3:=qy HB hx158_3
       replace p158:=eq_true p158
       replace q158:=eq_true q158
       go_wp2_with (first|((with_reducible refine zV (N:=6) rfl ?_);refine bq 6 (cs:=#[.string (⟨#[]⟩:ByteArray),.int .i64 0,.int .i64 0,.int .i64 0]) (t:=86) ?_;intro gb159 hg w8 hbox hb;replace HO_4:=zA (Kd.R_below (qR HO_4) hb);have BK159:=zA (hbox);have GW159:=zA (qg hg);have GE159:=zA (qg hg);replace HB:=zA (zH qb hb);have NB157_159:=zA ((by rw [hg];exact Nat.ne_of_lt (blk_lt (g:=gb157) (o:=.cells #[.slice (some ad158) l0_0.length c0_0,.slice A0_1 l0_1.length c0_1] 44 (0,0)) (qk BK157)):gb157 ≠ gb159));have NB159_157:=zA ((by rw [hg];exact Nat.ne_of_gt (blk_lt (g:=gb157) (o:=.cells #[.slice (some ad158) l0_0.length c0_0,.slice A0_1 l0_1.length c0_1] 44 (0,0)) (qk BK157)):gb159 ≠ gb157));replace BK157:=qK BK157 hb;clear hb hbox hg;have hnb9:=NB159_157.out;have hnc9:=NB157_159.out;have hcz10_0:=qx BK159 0;have hcz10_1:=qx BK159 1;have hcz10_2:=qx BK159 2;have hcz10_3:=qx BK159 3;have hfz10_0:=zJ BK159.out 0;have hfz10_1:=zJ BK159.out 1;have hfz10_2:=zJ BK159.out 2;have hfz10_3:=zJ BK159.out 3)|((with_reducible refine gate_builtin (b:=.append) (xs:=#[.tmp 14,.tmp 17]) rfl ?_);at_builtin;refine Kd.R_append (Kd.int .i64) (w0:=w) w.heap.size rfl (.tmp 14) (.tmp 17) 37 3 (.int .i64 0) 8 rfl Tryd.underlying37 info3 rfl (by decide) (by omega) u4 x4_1 ((rd_T86 l0_0 x10_1).f3) [.int .i64 ((rd_T86 l0_0 x10_1).f3)] (fun _=>True) (fun _=>False) rfl (by first|(go_simp;done)|(go_simp;rfl)) rfl (fun _ hk=>hk.elim) (fun _ _=>trivial) ?aO qb qs (qo LMc7) ?_;(case aO=>exact (by (with_reducible repeat (first|apply Kd.R_alloc|apply Kd.R_drewN|apply Kd.R_drew));exact Kd.R_mono (Kd.R_far (p:=⟨gb159,3,none⟩) (Kd.R_far (p:=⟨gb159,2,none⟩) (Kd.R_far (p:=⟨gb159,1,none⟩) (Kd.R_far (p:=⟨gb159,0,none⟩) (Kd.R_types HO_4.out BK159.out (by decide)) (fun _ hk=>hk.2) (.string ((rd_T86 l0_0 x10_1).f0))) (fun _ hk=>hk.2) (.int .i64 ((rd_T86 l0_0 x10_1).f1))) (fun _ hk=>hk.2) (.int .i64 ((rd_T86 l0_0 x10_1).f2))) (fun _ hk=>hk.2) (.int .i64 ((rd_T86 l0_0 x10_1).f3))) (fun _ hk=>trivial)));intro v161 w11 ho hb hg hat;rw [← Ny160.out] at ho;replace BK157:=zA (blk_grown (g:=gb157) (o:=.cells #[.slice (some ad158) l0_0.length c0_0,.slice A0_1 l0_1.length c0_1] 44 (0,0)) (by (with_reducible repeat (first|refine zL ?_ _|refine zM ?_|refine zK ?_ _));refine blk_far ?_ NB157_159.out _;(with_reducible repeat (first|refine zL ?_ _|refine zM ?_|refine zK ?_ _));refine blk_far ?_ NB157_159.out _;(with_reducible repeat (first|refine zL ?_ _|refine zM ?_|refine zK ?_ _));refine blk_far ?_ NB157_159.out _;(with_reducible repeat (first|refine zL ?_ _|refine zM ?_|refine zK ?_ _));refine blk_far ?_ NB157_159.out _;(with_reducible repeat (first|refine zL ?_ _|refine zM ?_|refine zK ?_ _));exact BK157.out) hg (Kd.R_ne HO_4.out BK157.out (by decide)));replace BK159:=zA (blk_grown (g:=gb159) (o:=.cells #[.string ((rd_T86 l0_0 x10_1).f0),.int .i64 ((rd_T86 l0_0 x10_1).f1),.int .i64 ((rd_T86 l0_0 x10_1).f2),.int .i64 ((rd_T86 l0_0 x10_1).f3)] 86 (0,0)) (by (with_reducible repeat (first|refine zL ?_ _|refine zM ?_|refine zK ?_ _));refine zO (cs:=#[.string ((rd_T86 l0_0 x10_1).f0),.int .i64 ((rd_T86 l0_0 x10_1).f1),.int .i64 ((rd_T86 l0_0 x10_1).f2),.int .i64 0]) ?_ 3 _ rfl;(with_reducible repeat (first|refine zL ?_ _|refine zM ?_|refine zK ?_ _));refine zO (cs:=#[.string ((rd_T86 l0_0 x10_1).f0),.int .i64 ((rd_T86 l0_0 x10_1).f1),.int .i64 0,.int .i64 0]) ?_ 2 _ rfl;(with_reducible repeat (first|refine zL ?_ _|refine zM ?_|refine zK ?_ _));refine zO (cs:=#[.string ((rd_T86 l0_0 x10_1).f0),.int .i64 0,.int .i64 0,.int .i64 0]) ?_ 1 _ rfl;(with_reducible repeat (first|refine zL ?_ _|refine zM ?_|refine zK ?_ _));refine zO (cs:=#[.string (⟨#[]⟩:ByteArray),.int .i64 0,.int .i64 0,.int .i64 0]) ?_ 0 _ rfl;(with_reducible repeat (first|refine zL ?_ _|refine zM ?_|refine zK ?_ _));exact BK159.out) hg (Kd.R_ne HO_4.out BK159.out (by decide)));replace HB:=zA (hb);have HO162:=zA (ho);clear HO_4;clear ho hb hg hat))
       go_roundg k1
       case measure=>have:=HK1.out;omega
       case rel=>exact ⟨(y160),(wrap64 (x10_1 + 1)),qr,H',⟨qo HK1⟩,⟨qR HO162⟩,⟨qk BK157⟩,⟨qb⟩⟩
      ·rw [if_neg c7] at H
       exact absurd H (by simp)
     ·exact absurd H (by simp)
    ·exact absurd H (by simp)
   ·replace H:=zb.mp H
    obtain ⟨⟨t163,t164⟩,A120,H⟩:=H
    replace H:(some (t163,t164)) = some (r1,r2):=H
    have A12:=zA A120
    clear A120
    simp only [Option.some.injEq,Prod.mk.injEq] at H
    obtain ⟨rfl,rfl⟩:=H
    have hcz13_0:=qx BK157 0
    have hcz13_1:=qx BK157 1
    have hfz13_0:=zJ BK157.out 0
    have hfz13_1:=zJ BK157.out 1
    obtain ⟨Ao14,co14,eo14⟩:=Kd.R_slice HO_4.out
    subst eo14
    go_wp2_with (first|((with_reducible refine zU (f:=52) rfl ?_);refine gL (some 22) Tryd.func52 #[.agg #[.slice A0_0 l0_0.length c0_0,.slice A0_1 l0_1.length c0_1],.slice Ao14 x4_1.length co14] ?_;(with_reducible refine (model_Code.calls k1 _ _ l0_0 _ _ l0_1 _ _ x4_1 t163 t164 _ (qc HR0_0) HC0_0.out (qc HR0_1) HC0_1.out (qu (Kd.R_reads' HO_4.out).2.2) ((Kd.R_reads' HO_4.out).2.1) qD A12.out).mono ?_);rintro e w15 ⟨rfl,hb⟩;refine ⟨_,rfl,?_⟩;replace HO_4:=zA (Kd.R_below (qR HO_4) hb);replace BK157:=qK BK157 hb;replace HB:=zA (zH qb hb);clear hb))
    go_ret2
    exact ⟨qe,qb⟩
end Go.Proofs.YthffpjkkmkjplaaDoor.S
namespace Go.Proofs.YthffpjkkmkjplaaDoor.S
open Go.Proofs.YthffpjkkmkjplaaDoor.Al
open Option renaming bind_eq_some_iff → zb
open Go.Proofs.YthffpjkkmkjplaaDoorW.PrintWords renaming below_step → zH, blk_frozen → zJ, blk_alloc → zK, blk_drewN → zL, blk_drew → zM, gate_callee → zU, gate_dst → zV
open Go.Proofs.YthffpjkkmkjplaaDoor.Sq
open Go.RowKit Go.Proofs.YthffpjkkmkjplaaDoorW.PrintWords Go.Proofs.YthffpjkkmkjplaaDoorW.PrintLast Go.Proofs.YthffpjkkmkjplaaDoorW.PrintMore
attribute [local go_sem] max2_int min2_int max_two min_two max_three min_three max_four min_four
set_option linter.unusedVariables false
set_option linter.unusedSimpArgs false
def model_Count.l0:Nat → Int → List (S86) → Int → Int → Option (Int × Int)
 | 0,_,_,_,_=>none
 | k + 1,x5,x14,x15,x16=>if x16 < x15 then (if 0 ≤ x16 then (if x16 < (x14.length:Int) then (model_Count.l0 k (wrap64 (x5 * (wrap64 ((wrap64 (((rd_T86 x14 x16).f2) - ((rd_T86 x14 x16).f1))) + 1)))) x14 x15 (wrap64 (x16 + 1))) else (none)) else (none)) else (some (x5,0))
def model_Count.f (k:Nat) (l0_0:List (S86)) (l0_1:List (S93)):Option (Int × Int):=(model_Check.f k l0_0 l0_1).bind fun t166=>(if t166 = 0 then (model_Count.l0 k 1 l0_0 (l0_0.length:Int) 0) else (some (0,t166)))
theorem model_Count.mono_l:∀ k,(∀ y0 y1 y2 y3,LeO (model_Count.l0 k y0 y1 y2 y3) (model_Count.l0 (k + 1) y0 y1 y2 y3))
 | 0=>fun _ _ _ _ r h=>by simp [model_Count.l0] at h
 | k + 1=>by
  have ih0:=model_Count.mono_l k
  ·intro y0 y1 y2 y3
   unfold model_Count.l0
   exact qM @model_Check.mono
theorem model_Count.mono:∀ a0 a1 k,LeO (model_Count.f k a0 a1) (model_Count.f (k + 1) a0 a1):=by
 intro a0 a1 k
 have ih0:=model_Count.mono_l k
 unfold model_Count.f
 exact qM @model_Check.mono
set_option maxHeartbeats 8000000 in
set_option maxRecDepth 100000 in
theorem model_Count.calls (k:Nat) (A0_0:Option Addr) (c0_0:Nat) (l0_0:List (S86)) (A0_1:Option Addr) (c0_1:Nat) (l0_1:List (S93)) (r1:Int) (r2:Int) (w:World) (hr0_0:Kd.C k86 w A0_0 l0_0.length l0_0) (hc0_0:l0_0.length ≤ c0_0) (hr0_1:Kd.C k93 w A0_1 l0_1.length l0_1) (hc0_1:l0_1.length ≤ c0_1) (hL:LaidG w) (h:model_Count.f k l0_0 l0_1 = some (r1,r2)) :
  Calls Tryd.prog 80 #[.agg #[.slice A0_0 l0_0.length c0_0,.slice A0_1 l0_1.length c0_1]] w fun e w'=>e = .returned (.tuple #[.int .i64 r1,.int .i64 r2])∧Below w.heap.size w w':=by
 have HLd:=zA hL
 clear hL
 have hu44:=Tryd.underlying44
 have hu86:=Tryd.underlying86
 have HR0_0:=zA hr0_0
 have HC0_0:=zA hc0_0
 clear hr0_0 hc0_0
 have HR0_1:=zA hr0_1
 have HC0_1:=zA hc0_1
 clear hr0_1 hc0_1
 have HB:=zA (Below.refl w.heap.size w)
 have H:((model_Check.f k l0_0 l0_1).bind fun t166=>(if t166 = 0 then (model_Count.l0 k 1 l0_0 (l0_0.length:Int) 0) else (some (0,t166)))) = some (r1,r2):=h
 clear h
 replace H:=zb.mp H
 obtain ⟨t166,A20,H⟩:=H
 replace H:(if t166 = 0 then (model_Count.l0 k 1 l0_0 (l0_0.length:Int) 0) else (some (0,t166))) = some (r1,r2):=H
 have A2:=zA A20
 clear A20
 by_cases c3:t166 = 0
 ·rw [if_pos c3] at H
  have c3b0:(t166 == 0) = true:=beq_iff_eq.mpr c3
  have c3b1:(t166 != 0) = false:=bne_eq_false_iff_eq.mpr c3
  clear c3
  have H':=zA H
  clear H
  go_enter Tryd.func80,Tryd.ntmps80
  go_wp2_with (first|((with_reducible refine zV (N:=1) rfl ?_);refine bq 1 (cs:=#[.slice A0_0 l0_0.length c0_0,.slice A0_1 l0_1.length c0_1]) (t:=44) ?_;intro gb165 hg w4 hbox hb;have BK165:=zA (hbox);have GW165:=zA (qg hg);have GE165:=zA (qg hg);replace HB:=zA (zH qb hb);clear hb hbox hg;have hcz5_0:=qx BK165 0;have hcz5_1:=qx BK165 1;have hfz5_0:=zJ BK165.out 0;have hfz5_1:=zJ BK165.out 1)|((with_reducible refine zU (f:=78) rfl ?_);refine gL (some 9) Tryd.func78 #[.agg #[.slice A0_0 l0_0.length c0_0,.slice A0_1 l0_1.length c0_1]] ?_;(with_reducible refine (model_Check.calls k _ _ l0_0 _ _ l0_1 t166 _ (qc HR0_0) HC0_0.out (qc HR0_1) HC0_1.out qD A2.out).mono ?_);rintro e w6 ⟨rfl,hb⟩;refine ⟨_,rfl,?_⟩;replace BK165:=qK BK165 hb;replace HB:=zA (zH qb hb);clear hb;have hcz7_0:=qx BK165 0;have hcz7_1:=qx BK165 1;have hfz7_0:=zJ BK165.out 0;have hfz7_1:=zJ BK165.out 1))
  go_loopg [5,16] k (fun kq v5 v16 w'=>∃ (x5_1:Int) (x16_1:Int),v5 = .int .i64 x5_1∧v16 = .int .i64 x16_1∧Aside0 (model_Count.l0 kq x5_1 l0_0 (l0_0.length:Int) x16_1 = some (r1,r2))∧Aside0 (kq ≤ k)∧Aside0 (w'.heap[gb165]? = some (.cells #[(.slice A0_0 l0_0.length c0_0),(.slice A0_1 l0_1.length c0_1)] 44 (0,0)))∧Aside0 (Below w.heap.size w w'))
  case atStart=>exact ⟨(1),(0),qr,qr,H',⟨Nat.le_refl _⟩,⟨qk BK165⟩,⟨qb⟩⟩
  case round =>
   clear H'
   try clear p2
   try clear c3
   try clear c3b0
   try clear c3b1
   try clear c7
   try clear hcz5_0
   try clear hcz5_1
   try clear hcz7_0
   try clear hcz7_1
   try clear hfz5_0
   try clear hfz5_1
   try clear hfz7_0
   try clear hfz7_1
   obtain ⟨x5_1,x16_1,rfl,rfl,HA,HK1,BK165,HB⟩:=hrel
   cases gk with
   | zero=>exact absurd HA.out (by simp [model_Count.l0])
   | succ k1 =>
    have H:=HA.out
    clear HA
    simp only [model_Count.l0] at H
    rcases qj H with ⟨c8b0,H⟩|⟨c8b0,H⟩
    ·rcases qj H with ⟨c9b0,H⟩|⟨c9,H⟩
     ·rcases qj H with ⟨c10b0,H⟩|⟨c10,H⟩
      ·have H':=zA H
       clear H
       have p167:0 ≤ (x16_1:Int):=qd
       have q167:x16_1 < (l0_0.length:Int):=qd
       obtain ⟨ad167,e167,hx167_0,hx167_1,hx167_2,hx167_3⟩:=at_T86 HR0_0.out x16_1 p167 q167
       cases e167
       replace hx167_0:=qy HB hx167_0
       replace hx167_1:=qy HB hx167_1
       replace hx167_2:=qy HB hx167_2
       replace hx167_3:=qy HB hx167_3
       replace p167:=eq_true p167
       replace q167:=eq_true q167
       go_wp2_with (first|((with_reducible refine zV (N:=7) rfl ?_);refine bq 7 (cs:=#[.string (⟨#[]⟩:ByteArray),.int .i64 0,.int .i64 0,.int .i64 0]) (t:=86) ?_;intro gb168 hg w11 hbox hb;have BK168:=zA (hbox);have GW168:=zA (qg hg);have GE168:=zA (qg hg);replace HB:=zA (zH qb hb);have NB165_168:=zA ((by rw [hg];exact Nat.ne_of_lt (blk_lt (g:=gb165) (o:=.cells #[.slice (some ad167) l0_0.length c0_0,.slice A0_1 l0_1.length c0_1] 44 (0,0)) (qk BK165)):gb165 ≠ gb168));have NB168_165:=zA ((by rw [hg];exact Nat.ne_of_gt (blk_lt (g:=gb165) (o:=.cells #[.slice (some ad167) l0_0.length c0_0,.slice A0_1 l0_1.length c0_1] 44 (0,0)) (qk BK165)):gb168 ≠ gb165));replace BK165:=qK BK165 hb;clear hb hbox hg;have hnb12:=NB168_165.out;have hnc12:=NB165_168.out;have hcz13_0:=qx BK168 0;have hcz13_1:=qx BK168 1;have hcz13_2:=qx BK168 2;have hcz13_3:=qx BK168 3;have hfz13_0:=zJ BK168.out 0;have hfz13_1:=zJ BK168.out 1;have hfz13_2:=zJ BK168.out 2;have hfz13_3:=zJ BK168.out 3))
       go_roundg k1
       case measure=>have:=HK1.out;omega
       case rel=>exact ⟨(wrap64 (x5_1 * (wrap64 ((wrap64 (((rd_T86 l0_0 x16_1).f2) - ((rd_T86 l0_0 x16_1).f1))) + 1)))),(wrap64 (x16_1 + 1)),qr,qr,H',⟨qo HK1⟩,⟨by (with_reducible repeat (first|refine zL ?_ _|refine zM ?_|refine zK ?_ _));refine blk_far ?_ NB165_168.out _;(with_reducible repeat (first|refine zL ?_ _|refine zM ?_|refine zK ?_ _));refine blk_far ?_ NB165_168.out _;(with_reducible repeat (first|refine zL ?_ _|refine zM ?_|refine zK ?_ _));refine blk_far ?_ NB165_168.out _;(with_reducible repeat (first|refine zL ?_ _|refine zM ?_|refine zK ?_ _));refine blk_far ?_ NB165_168.out _;(with_reducible repeat (first|refine zL ?_ _|refine zM ?_|refine zK ?_ _));exact BK165.out⟩,⟨qb⟩⟩
      ·exact absurd H (by simp)
     ·exact absurd H (by simp)
    ·simp only [Option.some.injEq,Prod.mk.injEq] at H
     obtain ⟨rfl,rfl⟩:=H
     go_wp2
     go_ret2
     exact ⟨qe,qb⟩
 ·rw [if_neg c3] at H
  have c3b0:(t166 == 0) = false:=beq_eq_false_iff_ne.mpr c3
  have c3b1:(t166 != 0) = true:=bne_iff_ne.mpr c3
  simp only [Option.some.injEq,Prod.mk.injEq] at H
  obtain ⟨rfl,rfl⟩:=H
  go_enter Tryd.func80,Tryd.ntmps80
  go_wp2_with (first|((with_reducible refine zV (N:=1) rfl ?_);refine bq 1 (cs:=#[.slice A0_0 l0_0.length c0_0,.slice A0_1 l0_1.length c0_1]) (t:=44) ?_;intro gb165 hg w14 hbox hb;have BK165:=zA (hbox);have GW165:=zA (qg hg);have GE165:=zA (qg hg);replace HB:=zA (zH qb hb);clear hb hbox hg;have hcz15_0:=qx BK165 0;have hcz15_1:=qx BK165 1;have hfz15_0:=zJ BK165.out 0;have hfz15_1:=zJ BK165.out 1)|((with_reducible refine zU (f:=78) rfl ?_);refine gL (some 9) Tryd.func78 #[.agg #[.slice A0_0 l0_0.length c0_0,.slice A0_1 l0_1.length c0_1]] ?_;(with_reducible refine (model_Check.calls k _ _ l0_0 _ _ l0_1 t166 _ (qc HR0_0) HC0_0.out (qc HR0_1) HC0_1.out qD A2.out).mono ?_);rintro e w16 ⟨rfl,hb⟩;refine ⟨_,rfl,?_⟩;replace BK165:=qK BK165 hb;replace HB:=zA (zH qb hb);clear hb))
  go_ret2
  exact ⟨qe,qb⟩
end Go.Proofs.YthffpjkkmkjplaaDoor.S
namespace Go.Proofs.YthffpjkkmkjplaaDoor.S
open Go.Proofs.YthffpjkkmkjplaaDoor.Al
open Option renaming bind_eq_some_iff → zb
open List renaming setIfInBounds_toArray → zX, set_cons_zero → zY, set_cons_succ → zZ
open Go.Proofs.YthffpjkkmkjplaaDoorW.PrintWords renaming pw_below_drewN → zC, below_alloc → zD, below_drew1 → zE, below_set → zF, below_step → zH, blk_cell → zI, blk_frozen → zJ, blk_alloc → zK, blk_drewN → zL, blk_drew → zM, blk_put → zO, gate_callee → zU, gate_dst → zV
open Go.Proofs.YthffpjkkmkjplaaDoor.Sq
open Go.RowKit Go.Proofs.YthffpjkkmkjplaaDoorW.PrintWords Go.Proofs.YthffpjkkmkjplaaDoorW.PrintLast Go.Proofs.YthffpjkkmkjplaaDoorW.PrintMore
attribute [local go_sem] max2_int min2_int max_two min_two max_three min_three max_four min_four
set_option linter.unusedVariables false
set_option linter.unusedSimpArgs false
mutual
def model_Values.j0:Nat → Int → Bool → List (S86) → List (S93) → Option (List Int × Int)
 | 0,_,_,_,_=>none
 | k + 1,x1,x26,x170000,x170001=>if x26 = true then (some (([]:List Int),9)) else (if 0 ≤ (x170000.length:Int) then (if ((x170000.length:Int):Int).toNat ≤ 35184372088832 then (model_Values.l0 k x1 (List.replicate ((x170000.length:Int):Int).toNat 0) (wrap64 ((x170000.length:Int) - 1)) x170000 x170001) else (none)) else (none))
def model_Values.l0:Nat → Int → List Int → Int → List (S86) → List (S93) → Option (List Int × Int)
 | 0,_,_,_,_,_=>none
 | k + 1,x1,x8,x9,x170000,x170001=>if x9 ≥ 0 then (if 0 ≤ x9 then (if x9 < (x170000.length:Int) then (if (wrap64 ((wrap64 (((rd_T86 x170000 x9).f2) - ((rd_T86 x170000 x9).f1))) + 1)) = 0 then (none) else (if x9 < (x8.length:Int) then (model_Values.l0 k (wrap64 (Int.tdiv x1 (wrap64 ((wrap64 (((rd_T86 x170000 x9).f2) - ((rd_T86 x170000 x9).f1))) + 1)))) (x8.set (x9:Int).toNat (wrap64 (((rd_T86 x170000 x9).f1) + (Int.tmod x1 (wrap64 ((wrap64 (((rd_T86 x170000 x9).f2) - ((rd_T86 x170000 x9).f1))) + 1)))))) (wrap64 (x9 - 1)) x170000 x170001) else (none))) else (none)) else (none)) else (some (x8,0))
end
def model_Values.f (k:Nat) (l0_0:List (S86)) (l0_1:List (S93)) (a1:Int):Option (List Int × Int):=(model_Count.f k l0_0 l0_1).bind fun bt170=>(if bt170.2 = 0 then (if a1 < 0 then (model_Values.j0 k a1 true l0_0 l0_1) else (model_Values.j0 k a1 (decide (a1 ≥ bt170.1)) l0_0 l0_1)) else (some (([]:List Int),bt170.2)))
theorem model_Values.mono_l:∀ k,(∀ y0 y1 y2 y3,LeO (model_Values.j0 k y0 y1 y2 y3) (model_Values.j0 (k + 1) y0 y1 y2 y3))∧(∀ y0 y1 y2 y3 y4,LeO (model_Values.l0 k y0 y1 y2 y3 y4) (model_Values.l0 (k + 1) y0 y1 y2 y3 y4))
 | 0=>⟨fun _ _ _ _ r h=>by simp [model_Values.j0] at h,fun _ _ _ _ _ r h=>by simp [model_Values.l0] at h⟩
 | k + 1=>by
  obtain ⟨ih0,ih1⟩:=model_Values.mono_l k
  refine ⟨?_,?_⟩
  ·intro y0 y1 y2 y3
   unfold model_Values.j0
   exact qM @model_Count.mono
  ·intro y0 y1 y2 y3 y4
   unfold model_Values.l0
   exact qM @model_Count.mono
theorem model_Values.mono:∀ a0 a1 a2 k,LeO (model_Values.f k a0 a1 a2) (model_Values.f (k + 1) a0 a1 a2):=by
 intro a0 a1 a2 k
 obtain ⟨ih0,ih1⟩:=model_Values.mono_l k
 unfold model_Values.f
 exact qM @model_Count.mono
def model_Values.T12:Bool × List (List Nat × List Nat):=(true,[([],[]),([],[]),([],[]),([2],[2]),([],[]),([],[]),([4,5],[4,5]),([3,6],[3,6]),([0,1,0,1,2,3,4,5,6,7],[0,1]),([8,7,0,1,2,3,4,5,6,7],[7,8])])
def model_Values.B12:List Nat:=[0,0,0,4,0,0,48,124,255,511]
theorem model_Values.tab12:rtab .any (opsOf Tryd.f53 12) = model_Values.T12:=by kernel_rfl
theorem model_Values.bits12:waitsOk model_Values.T12.2 model_Values.B12 = true:=by kernel_rfl
set_option maxHeartbeats 8000000 in
set_option maxRecDepth 100000 in
theorem model_Values.calls (k:Nat) (A0_0:Option Addr) (c0_0:Nat) (l0_0:List (S86)) (A0_1:Option Addr) (c0_1:Nat) (l0_1:List (S93)) (a1:Int) (r1:List Int) (r2:Int) (w:World) (hr0_0:Kd.C k86 w A0_0 l0_0.length l0_0) (hc0_0:l0_0.length ≤ c0_0) (hr0_1:Kd.C k93 w A0_1 l0_1.length l0_1) (hc0_1:l0_1.length ≤ c0_1) (hL:LaidG w) (h:model_Values.f k l0_0 l0_1 a1 = some (r1,r2)) :
  Calls Tryd.prog 53 #[.agg #[.slice A0_0 l0_0.length c0_0,.slice A0_1 l0_1.length c0_1],.int .i64 a1] w fun e w'=>∃ v0_:Value,e = .returned (.tuple #[v0_,.int .i64 r2])∧Kd.R (Kd.int .i64) 3 w' w.heap.size (fun _=>True) v0_ r1∧Below w.heap.size w w':=by
 have HLd:=zA hL
 clear hL
 have hu44:=Tryd.underlying44
 have hu86:=Tryd.underlying86
 have HR0_0:=zA hr0_0
 have HC0_0:=zA hc0_0
 clear hr0_0 hc0_0
 have HR0_1:=zA hr0_1
 have HC0_1:=zA hc0_1
 clear hr0_1 hc0_1
 have HB:=zA (Below.refl w.heap.size w)
 have H:((model_Count.f k l0_0 l0_1).bind fun bt170=>(if bt170.2 = 0 then (if a1 < 0 then (model_Values.j0 k a1 true l0_0 l0_1) else (model_Values.j0 k a1 (decide (a1 ≥ bt170.1)) l0_0 l0_1)) else (some (([]:List Int),bt170.2)))) = some (r1,r2):=h
 clear h
 replace H:=zb.mp H
 obtain ⟨⟨t170,t171⟩,A30,H⟩:=H
 replace H:(if t171 = 0 then (if a1 < 0 then (model_Values.j0 k a1 true l0_0 l0_1) else (model_Values.j0 k a1 (decide (a1 ≥ t170)) l0_0 l0_1)) else (some (([]:List Int),t171))) = some (r1,r2):=H
 have A3:=zA A30
 clear A30
 by_cases c4:t171 = 0
 ·rw [if_pos c4] at H
  have c4b0:(t171 == 0) = true:=beq_iff_eq.mpr c4
  have c4b1:(t171 != 0) = false:=bne_eq_false_iff_eq.mpr c4
  clear c4
  have HC5:=zA H
  clear H
  go_enter Tryd.func53,Tryd.ntmps53
  go_upto_region 4 with (first|((with_reducible refine zV (N:=2) rfl ?_);refine bq 2 (cs:=#[.slice A0_0 l0_0.length c0_0,.slice A0_1 l0_1.length c0_1]) (t:=44) ?_;intro gb169 hg w6 hbox hb;have BK169:=zA (hbox);have GW169:=zA (qg hg);have GE169:=zA (qg hg);replace HB:=zA (zH qb hb);clear hb hbox hg;have hcz7_0:=qx BK169 0;have hcz7_1:=qx BK169 1;have hfz7_0:=zJ BK169.out 0;have hfz7_1:=zJ BK169.out 1)|((with_reducible refine zU (f:=80) rfl ?_);refine gL (some 14) Tryd.func80 #[.agg #[.slice A0_0 l0_0.length c0_0,.slice A0_1 l0_1.length c0_1]] ?_;(with_reducible refine (model_Count.calls k _ _ l0_0 _ _ l0_1 t170 t171 _ (qc HR0_0) HC0_0.out (qc HR0_1) HC0_1.out qD A3.out).mono ?_);rintro e w8 ⟨rfl,hb⟩;refine ⟨_,rfl,?_⟩;replace BK169:=qK BK169 hb;replace HB:=zA (zH qb hb);clear hb))
  (try simp only [Act.put,zX,zY,zZ])
  go_cut [26] (fun v26 wc=>∃ (kq:Nat) (x26_4:Bool),v26 = .bool x26_4∧Aside0 (model_Values.j0 kq a1 x26_4 l0_0 l0_1 = some (r1,r2))∧Aside0 (kq ≤ k)∧Aside0 (wc.heap[gb169]? = some (.cells #[(.slice A0_0 l0_0.length c0_0),(.slice A0_1 l0_1.length c0_1)] 44 (0,0)))∧Aside0 (Below w.heap.size w wc))
  case first =>
   have H:=HC5.out
   clear HC5
   rcases qj H with ⟨c9b0,H⟩|⟨c9b0,H⟩
   ·(first|rw [c9b0]|(simp only [i64_w,i32_w];rw [c9b0])|skip)
    have H':=zA H
    clear H
    go_wp2
    go_meet
    case rel=>exact ⟨_,(true),qr,H',⟨qm⟩,⟨qk BK169⟩,⟨qb⟩⟩
   ·(first|rw [c9b0]|(simp only [i64_w,i32_w];rw [c9b0])|skip)
    have H':=zA H
    clear H
    go_wp2
    go_meet
    case rel=>exact ⟨_,(decide (a1 ≥ t170)),qr,H',⟨qm⟩,⟨qk BK169⟩,⟨qb⟩⟩
  case rest =>
   clear HC5
   try clear p2
   try clear c4
   try clear c4b0
   try clear c4b1
   try clear c5
   try clear c8
   try clear c9
   try clear c9b0
   try clear hcz7_0
   try clear hcz7_1
   try clear hfz7_0
   try clear hfz7_1
   obtain ⟨kq,x26_4,rfl,HA,HJ4,BK169,HB⟩:=hcut
   cases kq with
   | zero=>exact absurd HA.out (by simp [model_Values.j0])
   | succ kj4 =>
    have H:=HA.out
    clear HA
    simp only [model_Values.j0] at H
    by_cases c10:x26_4 = true
    ·subst c10
     have H1:(some (([]:List Int),9)) = some (r1,r2):=by rw [if_pos rfl] at H;exact H
     clear H
     have H:=H1
     clear H1
     simp only [Option.some.injEq,Prod.mk.injEq] at H
     obtain ⟨rfl,rfl⟩:=H
     go_wp2
     go_ret2
     exact ⟨_,qe,ql,qb⟩
    ·replace c10:=Bool.eq_false_iff.mpr c10
     subst c10
     have H1:(if 0 ≤ (l0_0.length:Int) then (if ((l0_0.length:Int):Int).toNat ≤ 35184372088832 then (model_Values.l0 kj4 a1 (List.replicate ((l0_0.length:Int):Int).toNat 0) (wrap64 ((l0_0.length:Int) - 1)) l0_0 l0_1) else (none)) else (none)) = some (r1,r2):=by rw [if_neg (show ¬ (false = true) by decide)] at H;exact H
     clear H
     have H:=H1
     clear H1
     by_cases c11:0 ≤ (l0_0.length:Int)
     ·rw [if_pos c11] at H
      have c11b0:=eq_true c11
      have c11b1:decide (0 ≤ (l0_0.length:Int)) = true:=zQ c11
      clear c11
      by_cases c12:((l0_0.length:Int):Int).toNat ≤ 35184372088832
      ·rw [if_pos c12] at H
       have c12b0:=eq_true c12
       have c12b1:decide (((l0_0.length:Int):Int).toNat ≤ 35184372088832) = true:=zQ c12
       clear c12
       obtain ⟨y172,hy172⟩:∃ y_:List Int,y_ = (List.replicate ((l0_0.length:Int):Int).toNat 0):=⟨_,rfl⟩
       replace H:(model_Values.l0 kj4 a1 y172 (wrap64 ((l0_0.length:Int) - 1)) l0_0 l0_1) = some (r1,r2):=by first|(rw [hy172];with_reducible exact H)|(have H2_:=(Option.bind_some _ _).symm.trans H;rw [hy172];with_reducible exact H2_)|(have H2_:=(Option.bind_some _ _).symm.trans H;with_reducible exact H2_)|with_reducible exact H|(rw [hy172];exact H)|exact H
       have Ny172:=zA hy172
       clear hy172
       have H':=zA H
       clear H
       have hcz13_0:=qx BK169 0
       have hcz13_1:=qx BK169 1
       have hfz13_0:=zJ BK169.out 0
       have hfz13_1:=zJ BK169.out 1
       go_wp2_with (first|((with_reducible refine zV (N:=30) rfl ?_);refine Kd.R_make (Kd.int .i64) _ 3 rfl (N:=30) rfl 37 _ _ rfl (l0_0.length:Int) rfl rfl Tryd.underlying37 (.int .i64 0) 8 info3 rfl (by decide) (by omega) 0 (ok:=fun _=>True) (okp:=fun _=>True) rfl (fun _ hk=>hk) trivial (qd) (Nat.le_trans (Nat.mul_le_mul_right _ (qd:(l0_0.length:Int).toNat ≤ 35184372088832)) (by omega)) (Below.refl _ _) (Nat.le_refl _) ?_;intro v173 w14 ho15 hb hg_ hnew_;clear hg_ hnew_;(first|rw [← Ny172.out] at ho15|(simp only [Int.reduceToNat] at ho15;rw [← Ny172.out] at ho15));have HO174:=zA (Kd.R_lower ho15 qs);replace BK169:=qK BK169 hb;replace HB:=zA (zH qb hb);clear hb ho15;have hcz16_0:=qx BK169 0;have hcz16_1:=qx BK169 1;have hfz16_0:=zJ BK169.out 0;have hfz16_1:=zJ BK169.out 1))
       go_loopg [1,9] kj4 (fun kq v1 v9 w'=>∃ (x1_2:Int) (x8_2:List Int) (x9_2:Int),v1 = .int .i64 x1_2∧v9 = .int .i64 x9_2∧Aside0 (model_Values.l0 kq x1_2 x8_2 x9_2 l0_0 l0_1 = some (r1,r2))∧Aside0 (kq ≤ kj4)∧Aside0 (Kd.R (Kd.int .i64) 3 w' w.heap.size (fun _=>True) v173 x8_2)∧Aside0 (w'.heap[gb169]? = some (.cells #[(.slice A0_0 l0_0.length c0_0),(.slice A0_1 l0_1.length c0_1)] 44 (0,0)))∧Aside0 (Below w.heap.size w w'))
       case atStart=>exact ⟨(a1),(y172),(wrap64 ((l0_0.length:Int) - 1)),qr,qr,H',⟨Nat.le_refl _⟩,⟨qR HO174⟩,⟨qk BK169⟩,⟨qb⟩⟩
       case round =>
        clear H'
        try clear c1
        try clear p2
        try clear c4
        try clear c4b0
        try clear c4b1
        try clear c5
        try clear p6
        try clear c8
        try clear c9
        try clear c9b0
        try clear c10
        try clear c11
        try clear c11b0
        try clear c11b1
        try clear c12
        try clear c12b0
        try clear c12b1
        try clear hcz13_0
        try clear hcz13_1
        try clear hcz16_0
        try clear hcz16_1
        try clear hcz7_0
        try clear hcz7_1
        try clear hfz13_0
        try clear hfz13_1
        try clear hfz16_0
        try clear hfz16_1
        try clear hfz7_0
        try clear hfz7_1
        try clear p2
        obtain ⟨x1_2,x8_2,x9_2,rfl,rfl,HA,HK2,HO_8,BK169,HB⟩:=hrel
        cases gk with
        | zero=>exact absurd HA.out (by simp [model_Values.l0])
        | succ k2 =>
         have H:=HA.out
         clear HA
         simp only [model_Values.l0] at H
         by_cases c17:x9_2 ≥ 0
         ·rw [if_pos c17] at H
          have c17b0:decide (0 ≤ x9_2) = true:=zQ c17
          clear c17
          rcases qj H with ⟨c18b0,H⟩|⟨c18,H⟩
          ·rcases qj H with ⟨c19b0,H⟩|⟨c19,H⟩
           ·by_cases c20:(wrap64 ((wrap64 (((rd_T86 l0_0 x9_2).f2) - ((rd_T86 l0_0 x9_2).f1))) + 1)) = 0
            ·rw [if_pos c20] at H
             exact absurd H (by simp)
            ·rw [if_neg c20] at H
             have c20b0:((wrap64 ((wrap64 (((rd_T86 l0_0 x9_2).f2) - ((rd_T86 l0_0 x9_2).f1))) + 1)) == 0) = false:=beq_eq_false_iff_ne.mpr c20
             have c20b1:((wrap64 ((wrap64 (((rd_T86 l0_0 x9_2).f2) - ((rd_T86 l0_0 x9_2).f1))) + 1)) != 0) = true:=bne_iff_ne.mpr c20
             rcases qj H with ⟨c21b0,H⟩|⟨c21,H⟩
             ·obtain ⟨y177,hy177⟩:∃ y_:List Int,y_ = (x8_2.set (x9_2:Int).toNat (wrap64 (((rd_T86 l0_0 x9_2).f1) + (Int.tmod x1_2 (wrap64 ((wrap64 (((rd_T86 l0_0 x9_2).f2) - ((rd_T86 l0_0 x9_2).f1))) + 1)))))):=⟨_,rfl⟩
              replace H:(model_Values.l0 k2 (wrap64 (Int.tdiv x1_2 (wrap64 ((wrap64 (((rd_T86 l0_0 x9_2).f2) - ((rd_T86 l0_0 x9_2).f1))) + 1)))) y177 (wrap64 (x9_2 - 1)) l0_0 l0_1) = some (r1,r2):=by first|(rw [hy177];with_reducible exact H)|(have H2_:=(Option.bind_some _ _).symm.trans H;rw [hy177];with_reducible exact H2_)|(have H2_:=(Option.bind_some _ _).symm.trans H;with_reducible exact H2_)|with_reducible exact H|(rw [hy177];exact H)|exact H
              have Ny177:=zA hy177
              clear hy177
              have H':=zA H
              clear H
              have hcz23_0:=qx BK169 0
              have hcz23_1:=qx BK169 1
              have hfz23_0:=zJ BK169.out 0
              have hfz23_1:=zJ BK169.out 1
              have p175:0 ≤ (x9_2:Int):=qd
              have q175:x9_2 < (l0_0.length:Int):=qd
              obtain ⟨ad175,e175,hx175_0,hx175_1,hx175_2,hx175_3⟩:=at_T86 HR0_0.out x9_2 p175 q175
              cases e175
              replace hx175_0:=qy HB hx175_0
              replace hx175_1:=qy HB hx175_1
              replace hx175_2:=qy HB hx175_2
              replace hx175_3:=qy HB hx175_3
              replace p175:=eq_true p175
              replace q175:=eq_true q175
              try go_wp2_with (first|((with_reducible refine zV (N:=10) rfl ?_);refine bq 10 (cs:=#[.string (⟨#[]⟩:ByteArray),.int .i64 0,.int .i64 0,.int .i64 0]) (t:=86) ?_;intro gb176 hg w24 hbox hb;replace HO_8:=zA (Kd.R_below (qR HO_8) hb);have BK176:=zA (hbox);have GW176:=zA (qg hg);have GE176:=zA (qg hg);replace HB:=zA (zH qb hb);have NB169_176:=zA ((by rw [hg];exact Nat.ne_of_lt (blk_lt (g:=gb169) (o:=.cells #[.slice (some ad175) l0_0.length c0_0,.slice A0_1 l0_1.length c0_1] 44 (0,0)) (qk BK169)):gb169 ≠ gb176));have NB176_169:=zA ((by rw [hg];exact Nat.ne_of_gt (blk_lt (g:=gb169) (o:=.cells #[.slice (some ad175) l0_0.length c0_0,.slice A0_1 l0_1.length c0_1] 44 (0,0)) (qk BK169)):gb176 ≠ gb169));replace BK169:=qK BK169 hb;clear hb hbox hg;have hnb25:=NB176_169.out;have hnc25:=NB169_176.out;have hcz26_0:=qx BK176 0;have hcz26_1:=qx BK176 1;have hcz26_2:=qx BK176 2;have hcz26_3:=qx BK176 3;have hfz26_0:=zJ BK176.out 0;have hfz26_1:=zJ BK176.out 1;have hfz26_2:=zJ BK176.out 2;have hfz26_3:=zJ BK176.out 3))
              have n0_:Aside0 (Kd.R (Kd.int .i64) 3 ((((w24.setCell ⟨gb176,0,none⟩ (.string ((rd_T86 l0_0 x9_2).f0))).setCell ⟨gb176,1,none⟩ (.int .i64 ((rd_T86 l0_0 x9_2).f1))).setCell ⟨gb176,2,none⟩ (.int .i64 ((rd_T86 l0_0 x9_2).f2))).setCell ⟨gb176,3,none⟩ (.int .i64 ((rd_T86 l0_0 x9_2).f3))) w.heap.size (fun _=>True) v173 x8_2):=⟨by (with_reducible repeat (first|apply Kd.R_alloc|apply Kd.R_drewN|apply Kd.R_drew));exact Kd.R_mono (Kd.R_far (p:=⟨gb176,3,none⟩) (Kd.R_far (p:=⟨gb176,2,none⟩) (Kd.R_far (p:=⟨gb176,1,none⟩) (Kd.R_far (p:=⟨gb176,0,none⟩) (Kd.R_types HO_8.out BK176.out (by decide)) (fun _ hk=>hk.2) (.string ((rd_T86 l0_0 x9_2).f0))) (fun _ hk=>hk.2) (.int .i64 ((rd_T86 l0_0 x9_2).f1))) (fun _ hk=>hk.2) (.int .i64 ((rd_T86 l0_0 x9_2).f2))) (fun _ hk=>hk.2) (.int .i64 ((rd_T86 l0_0 x9_2).f3))) (fun _ hk=>trivial)⟩
              have n1_:Aside0 (((((w24.setCell ⟨gb176,0,none⟩ (.string ((rd_T86 l0_0 x9_2).f0))).setCell ⟨gb176,1,none⟩ (.int .i64 ((rd_T86 l0_0 x9_2).f1))).setCell ⟨gb176,2,none⟩ (.int .i64 ((rd_T86 l0_0 x9_2).f2))).setCell ⟨gb176,3,none⟩ (.int .i64 ((rd_T86 l0_0 x9_2).f3))).heap[gb169]? = some (.cells #[.slice (some ad175) l0_0.length c0_0,.slice A0_1 l0_1.length c0_1] 44 (0,0))):=⟨by (with_reducible repeat (first|refine zL ?_ _|refine zM ?_|refine zK ?_ _));refine blk_far ?_ NB169_176.out _;(with_reducible repeat (first|refine zL ?_ _|refine zM ?_|refine zK ?_ _));refine blk_far ?_ NB169_176.out _;(with_reducible repeat (first|refine zL ?_ _|refine zM ?_|refine zK ?_ _));refine blk_far ?_ NB169_176.out _;(with_reducible repeat (first|refine zL ?_ _|refine zM ?_|refine zK ?_ _));refine blk_far ?_ NB169_176.out _;(with_reducible repeat (first|refine zL ?_ _|refine zM ?_|refine zK ?_ _));exact BK169.out⟩
              have n2_:Aside0 (((((w24.setCell ⟨gb176,0,none⟩ (.string ((rd_T86 l0_0 x9_2).f0))).setCell ⟨gb176,1,none⟩ (.int .i64 ((rd_T86 l0_0 x9_2).f1))).setCell ⟨gb176,2,none⟩ (.int .i64 ((rd_T86 l0_0 x9_2).f2))).setCell ⟨gb176,3,none⟩ (.int .i64 ((rd_T86 l0_0 x9_2).f3))).heap[gb176]? = some (.cells #[.string ((rd_T86 l0_0 x9_2).f0),.int .i64 ((rd_T86 l0_0 x9_2).f1),.int .i64 ((rd_T86 l0_0 x9_2).f2),.int .i64 ((rd_T86 l0_0 x9_2).f3)] 86 (0,0))):=⟨by (with_reducible repeat (first|refine zL ?_ _|refine zM ?_|refine zK ?_ _));refine zO (cs:=#[.string ((rd_T86 l0_0 x9_2).f0),.int .i64 ((rd_T86 l0_0 x9_2).f1),.int .i64 ((rd_T86 l0_0 x9_2).f2),.int .i64 0]) ?_ 3 _ rfl;(with_reducible repeat (first|refine zL ?_ _|refine zM ?_|refine zK ?_ _));refine zO (cs:=#[.string ((rd_T86 l0_0 x9_2).f0),.int .i64 ((rd_T86 l0_0 x9_2).f1),.int .i64 0,.int .i64 0]) ?_ 2 _ rfl;(with_reducible repeat (first|refine zL ?_ _|refine zM ?_|refine zK ?_ _));refine zO (cs:=#[.string ((rd_T86 l0_0 x9_2).f0),.int .i64 0,.int .i64 0,.int .i64 0]) ?_ 1 _ rfl;(with_reducible repeat (first|refine zL ?_ _|refine zM ?_|refine zK ?_ _));refine zO (cs:=#[.string (⟨#[]⟩:ByteArray),.int .i64 0,.int .i64 0,.int .i64 0]) ?_ 0 _ rfl;(with_reducible repeat (first|refine zL ?_ _|refine zM ?_|refine zK ?_ _));exact BK176.out⟩
              have n3_:Aside0 (Below w.heap.size w ((((w24.setCell ⟨gb176,0,none⟩ (.string ((rd_T86 l0_0 x9_2).f0))).setCell ⟨gb176,1,none⟩ (.int .i64 ((rd_T86 l0_0 x9_2).f1))).setCell ⟨gb176,2,none⟩ (.int .i64 ((rd_T86 l0_0 x9_2).f2))).setCell ⟨gb176,3,none⟩ (.int .i64 ((rd_T86 l0_0 x9_2).f3)))):=⟨qb⟩
              (try clear HO_8)
              (try clear BK169)
              (try clear BK176)
              (try clear HB)
              generalize ((((w24.setCell ⟨gb176,0,none⟩ (.string ((rd_T86 l0_0 x9_2).f0))).setCell ⟨gb176,1,none⟩ (.int .i64 ((rd_T86 l0_0 x9_2).f1))).setCell ⟨gb176,2,none⟩ (.int .i64 ((rd_T86 l0_0 x9_2).f2))).setCell ⟨gb176,3,none⟩ (.int .i64 ((rd_T86 l0_0 x9_2).f3))) = w27 at n0_ n1_ n2_ n3_ ⊢
              have HO_8:=n0_
              have BK169:=n1_
              have BK176:=n2_
              have HB:=n3_
              clear n0_ n1_ n2_ n3_
              replace HO_8:=zA (Kd.R_drew HO_8.out)
              replace BK169:=zA (zM BK169.out)
              replace BK176:=zA (zM BK176.out)
              replace HB:=zA (zE HB.out)
              have p22:0 ≤ (x9_2:Int):=qd
              have q22:(x9_2:Int) < ((x8_2.length:Int):Int):=qd
              obtain ⟨go22,co22,eo22,gb22,gl22,cl22,HG22⟩:=Kd.R_form HO_8.out (by omega)
              (first|cases eo22|(injection eo22 with ea_ en_ ec_;(first|subst ea_|(injection ea_ with ea_;subst ea_));subst ec_;clear en_))
              have GB22:=zA gb22
              have GG22:=zA HG22
              clear gb22 gl22 HG22
              obtain ⟨hx22_0,hf22_0⟩:=Kd.R_celln 0 HO_8.out (x9_2:Int) p22 q22
              replace p22:=eq_true p22
              replace q22:=eq_true q22
              have HP29:=Kd.R_putn HO_8.out (x9_2:Int) (wrap64 (((rd_T86 l0_0 x9_2).f1) + (Int.tmod x1_2 (wrap64 ((wrap64 (((rd_T86 l0_0 x9_2).f2) - ((rd_T86 l0_0 x9_2).f1))) + 1)))))
              rw [← Ny177.out] at HP29
              have HQ29:=zA HP29
              clear HP29
              refine start_ (n:=10) (S:=fun w'=>w'.cell? ⟨gb176,0,none⟩ = some (.string ((rd_T86 l0_0 x9_2).f0))∧w'.cell? ⟨gb176,1,none⟩ = some (.int .i64 ((rd_T86 l0_0 x9_2).f1))∧w'.cell? ⟨gb176,2,none⟩ = some (.int .i64 ((rd_T86 l0_0 x9_2).f2))∧w'.cell? ⟨gb176,3,none⟩ = some (.int .i64 ((rd_T86 l0_0 x9_2).f3))) (ds:=[9]) #[false,false,false,false,false,false,false,false,false,false] (by kernel_rfl) rfl rfl ⟨(zI BK176.out 0).trans rfl,(zI BK176.out 1).trans rfl,(zI BK176.out 2).trans rfl,(zI BK176.out 3).trans rfl⟩ (fun hHeld=>?_);refine with_tabW model_Values.tab12 model_Values.bits12 (fun HT_ HW_=>?_)
              generalize w27.drew = w28 at HO_8 BK169 BK176 HB GG22 HQ29 hf22_0 hx22_0 hHeld ⊢
              refine pq 0 (some 50) HT_ ?_
              refine pq 1 (some 51) HT_ ?_
              refine pq 2 (some 52) HT_ ?_
              refine pq 4 (some 54) HT_ ?_
              refine pq 5 (some 55) HT_ ?_
              refine pq 6 (some 56) HT_ ?_
              refine tq 3 (some 53) HT_ HW_ hHeld ?_
              refine pq 7 (some 57) HT_ ?_
              refine pq 8 (some 58) HT_ ?_
              refine last_ (i:=9) (N:=none) #[true,true,true,true,true,true,true,true,true,true] rfl rfl (one_of HT_.out (by kernel_rfl)) (by decide) (fun K hK=>?_)
              refine skip_ (w1:=?_) (by rfl) rfl ?_ ?_
              rotate_left
              ·go_simp
               rfl
              refine hK.out _ _ ?_
              clear hK K
              refine done_ (done_of HT_.out (by kernel_rfl)) ?_
              try go_wp2
              go_roundg k2
              case measure=>have:=HJ4.out;have:=HK2.out;omega
              case rel=>exact ⟨(wrap64 (Int.tdiv x1_2 (wrap64 ((wrap64 (((rd_T86 l0_0 x9_2).f2) - ((rd_T86 l0_0 x9_2).f1))) + 1)))),(y177),(wrap64 (x9_2 - 1)),qr,qr,H',⟨qp HJ4 HK2⟩,⟨qR HQ29⟩,⟨by (with_reducible repeat (first|refine zL ?_ _|refine zM ?_|refine zK ?_ _));refine blk_far ?_ (by have h_:=Kd.R_ne HO_8.out BK169.out (by decide);intro e_;exact h_ (by rw [e_];rfl)) _;(with_reducible repeat (first|refine zL ?_ _|refine zM ?_|refine zK ?_ _));exact BK169.out⟩,⟨by repeat (first|(with_reducible first|exact HB.out|apply zD|apply zC|apply zE|refine zF ?_ GB22.out|refine zF ?_ GE169.out|refine zF ?_ GE176.out)|exact HB.out)⟩⟩
             ·exact absurd H (by simp)
           ·exact absurd H (by simp)
          ·exact absurd H (by simp)
         ·rw [if_neg c17] at H
          have c17b0:decide (0 ≤ x9_2) = false:=zR c17
          clear c17
          simp only [Option.some.injEq,Prod.mk.injEq] at H
          obtain ⟨rfl,rfl⟩:=H
          go_wp2
          go_ret2
          exact ⟨_,qe,qR HO_8,qb⟩
      ·rw [if_neg c12] at H
       exact absurd H (by simp)
     ·rw [if_neg c11] at H
      exact absurd H (by simp)
 ·rw [if_neg c4] at H
  have c4b0:(t171 == 0) = false:=beq_eq_false_iff_ne.mpr c4
  have c4b1:(t171 != 0) = true:=bne_iff_ne.mpr c4
  simp only [Option.some.injEq,Prod.mk.injEq] at H
  obtain ⟨rfl,rfl⟩:=H
  go_enter Tryd.func53,Tryd.ntmps53
  go_wp2_with (first|((with_reducible refine zV (N:=2) rfl ?_);refine bq 2 (cs:=#[.slice A0_0 l0_0.length c0_0,.slice A0_1 l0_1.length c0_1]) (t:=44) ?_;intro gb169 hg w30 hbox hb;have BK169:=zA (hbox);have GW169:=zA (qg hg);have GE169:=zA (qg hg);replace HB:=zA (zH qb hb);clear hb hbox hg;have hcz31_0:=qx BK169 0;have hcz31_1:=qx BK169 1;have hfz31_0:=zJ BK169.out 0;have hfz31_1:=zJ BK169.out 1)|((with_reducible refine zU (f:=80) rfl ?_);refine gL (some 14) Tryd.func80 #[.agg #[.slice A0_0 l0_0.length c0_0,.slice A0_1 l0_1.length c0_1]] ?_;(with_reducible refine (model_Count.calls k _ _ l0_0 _ _ l0_1 t170 t171 _ (qc HR0_0) HC0_0.out (qc HR0_1) HC0_1.out qD A3.out).mono ?_);rintro e w32 ⟨rfl,hb⟩;refine ⟨_,rfl,?_⟩;replace BK169:=qK BK169 hb;replace HB:=zA (zH qb hb);clear hb))
  go_ret2
  exact ⟨_,qe,ql,qb⟩
end Go.Proofs.YthffpjkkmkjplaaDoor.S
namespace Go.Proofs.YthffpjkkmkjplaaDoor.S
open Go.Proofs.YthffpjkkmkjplaaDoor.Al
open Go.Proofs.YthffpjkkmkjplaaDoorW.PrintWords
open Go.Proofs.YthffpjkkmkjplaaDoor.Sq
open Go.RowKit Go.Proofs.YthffpjkkmkjplaaDoorW.PrintWords Go.Proofs.YthffpjkkmkjplaaDoorW.PrintLast Go.Proofs.YthffpjkkmkjplaaDoorW.PrintMore
attribute [local go_sem] max2_int min2_int max_two min_two max_three min_three max_four min_four
set_option linter.unusedVariables false
set_option linter.unusedSimpArgs false
def foretellref_In.f (a0:Int) (a1:Int) (a2:Int):Option (Bool):=if a0 ≥ a1 then (some (decide (a0 ≤ a2))) else (some false)
set_option maxHeartbeats 8000000 in
set_option maxRecDepth 100000 in
theorem foretellref_In.calls (a0:Int) (a1:Int) (a2:Int) (r:Bool) (w:World) (h:foretellref_In.f a0 a1 a2 = some r) :
  Calls Tryd.prog 50 #[.int .i64 a0,.int .i64 a1,.int .i64 a2] w fun e w'=>e = .returned (.bool r)∧Drawn0 w w':=by
 have H:(if a0 ≥ a1 then (some (decide (a0 ≤ a2))) else (some false)) = some r:=h
 clear h
 by_cases c4:a0 ≥ a1
 ·rw [if_pos c4] at H
  have c4b0:decide (a1 ≤ a0) = true:=zQ c4
  clear c4
  obtain rfl:=Option.some.inj H
  go_enter Tryd.func50,Tryd.ntmps50
  go_wp2
  go_ret
  exact ⟨qr,qt⟩
 ·rw [if_neg c4] at H
  have c4b0:decide (a1 ≤ a0) = false:=zR c4
  clear c4
  obtain rfl:=Option.some.inj H
  go_enter Tryd.func50,Tryd.ntmps50
  go_wp2
  go_ret
  exact ⟨qr,qt⟩
mutual
def foretellref_PartsOf.j0:Nat → Int → Bool → Option (Int × Int)
 | 0,_,_=>none
 | k + 1,x4,x5=>if x5 = true then (some (0,0)) else (if x4 = 10 then (foretellref_PartsOf.j1 k x4 (x4 == 10)) else (if x4 = 14 then (foretellref_PartsOf.j1 k x4 (x4 == 14)) else (if x4 = 17 then (foretellref_PartsOf.j1 k x4 (x4 == 17)) else (foretellref_PartsOf.j1 k x4 (x4 == 18)))))
def foretellref_PartsOf.j1:Nat → Int → Bool → Option (Int × Int)
 | 0,_,_=>none
 | k + 1,x4,x11=>if x11 = true then (some (1,0)) else (if x4 = 3 then (some (2,0)) else (if x4 = 4 then (some (2,0)) else (if x4 = 5 then (some (2,0)) else (if x4 = 6 then (some (2,0)) else (if x4 = 7 then (some (2,0)) else (if x4 = 8 then (some (2,0)) else (if x4 = 9 then (some (2,0)) else (if x4 = 15 then (some (2,0)) else (if x4 = 16 then (some (2,0)) else (some (0,13)))))))))))
end
def foretellref_PartsOf.f (k:Nat) (a0:Int):Option (Int × Int):=if a0 = 1 then (foretellref_PartsOf.j0 k a0 (a0 == 1)) else (if a0 = 2 then (foretellref_PartsOf.j0 k a0 (a0 == 2)) else (if a0 = 11 then (foretellref_PartsOf.j0 k a0 (a0 == 11)) else (if a0 = 12 then (foretellref_PartsOf.j0 k a0 (a0 == 12)) else (foretellref_PartsOf.j0 k a0 (a0 == 13)))))
theorem foretellref_PartsOf.mono_l:∀ k,(∀ y0 y1,LeO (foretellref_PartsOf.j0 k y0 y1) (foretellref_PartsOf.j0 (k + 1) y0 y1))∧(∀ y0 y1,LeO (foretellref_PartsOf.j1 k y0 y1) (foretellref_PartsOf.j1 (k + 1) y0 y1))
 | 0=>⟨fun _ _ r h=>by simp [foretellref_PartsOf.j0] at h,fun _ _ r h=>by simp [foretellref_PartsOf.j1] at h⟩
 | k + 1=>by
  obtain ⟨ih0,ih1⟩:=foretellref_PartsOf.mono_l k
  refine ⟨?_,?_⟩
  ·intro y0 y1
   unfold foretellref_PartsOf.j0
   exact qL
  ·intro y0 y1
   unfold foretellref_PartsOf.j1
   exact qL
theorem foretellref_PartsOf.mono:∀ a0 k,LeO (foretellref_PartsOf.f k a0) (foretellref_PartsOf.f (k + 1) a0):=by
 intro a0 k
 obtain ⟨ih0,ih1⟩:=foretellref_PartsOf.mono_l k
 unfold foretellref_PartsOf.f
 exact qL
set_option maxHeartbeats 8000000 in
set_option maxRecDepth 100000 in
theorem foretellref_PartsOf.calls (k:Nat) (a0:Int) (r1:Int) (r2:Int) (w:World) (h:foretellref_PartsOf.f k a0 = some (r1,r2)) :
  Calls Tryd.prog 109 #[.int .i64 a0] w fun e w'=>e = .returned (.tuple #[.int .i64 r1,.int .i64 r2])∧Drawn0 w w':=by
 have H:(if a0 = 1 then (foretellref_PartsOf.j0 k a0 (a0 == 1)) else (if a0 = 2 then (foretellref_PartsOf.j0 k a0 (a0 == 2)) else (if a0 = 11 then (foretellref_PartsOf.j0 k a0 (a0 == 11)) else (if a0 = 12 then (foretellref_PartsOf.j0 k a0 (a0 == 12)) else (foretellref_PartsOf.j0 k a0 (a0 == 13)))))) = some (r1,r2):=h
 clear h
 have HC2:=zA H
 clear H
 go_enter Tryd.func109,Tryd.ntmps109
 go_upto_if 5 with (fail)
 go_cut [5] (fun v5 wc=>∃ (kq:Nat) (x5_1:Bool),v5 = .bool x5_1∧Aside0 (foretellref_PartsOf.j0 kq a0 x5_1 = some (r1,r2))∧Aside0 (kq ≤ k)∧Drawn0 w wc)
 case first =>
  have H:=HC2.out
  clear HC2
  by_cases c3:a0 = 1
  ·rw [if_pos c3] at H
   have c3b0:(a0 == 1) = true:=beq_iff_eq.mpr c3
   have c3b1:(a0 != 1) = false:=bne_eq_false_iff_eq.mpr c3
   clear c3
   (first|rw [c3b0]|(simp only [i64_w,i32_w];rw [c3b0])|skip)
   have H':=zA H
   clear H
   go_wp2
   go_meet
   case rel=>exact ⟨_,((a0 == 1)),qr,H',⟨qm⟩,qt⟩
  ·rw [if_neg c3] at H
   have c3b0:(a0 == 1) = false:=beq_eq_false_iff_ne.mpr c3
   have c3b1:(a0 != 1) = true:=bne_iff_ne.mpr c3
   (first|rw [c3b0]|(simp only [i64_w,i32_w];rw [c3b0])|skip)
   by_cases c4:a0 = 2
   ·rw [if_pos c4] at H
    have c4b0:(a0 == 2) = true:=beq_iff_eq.mpr c4
    have c4b1:(a0 != 2) = false:=bne_eq_false_iff_eq.mpr c4
    clear c4
    have H':=zA H
    clear H
    go_wp2
    go_meet
    case rel=>exact ⟨_,((a0 == 2)),qr,H',⟨qm⟩,qt⟩
   ·rw [if_neg c4] at H
    have c4b0:(a0 == 2) = false:=beq_eq_false_iff_ne.mpr c4
    have c4b1:(a0 != 2) = true:=bne_iff_ne.mpr c4
    by_cases c5:a0 = 11
    ·rw [if_pos c5] at H
     have c5b0:(a0 == 11) = true:=beq_iff_eq.mpr c5
     have c5b1:(a0 != 11) = false:=bne_eq_false_iff_eq.mpr c5
     clear c5
     have H':=zA H
     clear H
     go_wp2
     go_meet
     case rel=>exact ⟨_,((a0 == 11)),qr,H',⟨qm⟩,qt⟩
    ·rw [if_neg c5] at H
     have c5b0:(a0 == 11) = false:=beq_eq_false_iff_ne.mpr c5
     have c5b1:(a0 != 11) = true:=bne_iff_ne.mpr c5
     by_cases c6:a0 = 12
     ·rw [if_pos c6] at H
      have c6b0:(a0 == 12) = true:=beq_iff_eq.mpr c6
      have c6b1:(a0 != 12) = false:=bne_eq_false_iff_eq.mpr c6
      clear c6
      have H':=zA H
      clear H
      go_wp2
      go_meet
      case rel=>exact ⟨_,((a0 == 12)),qr,H',⟨qm⟩,qt⟩
     ·rw [if_neg c6] at H
      have c6b0:(a0 == 12) = false:=beq_eq_false_iff_ne.mpr c6
      have c6b1:(a0 != 12) = true:=bne_iff_ne.mpr c6
      have H':=zA H
      clear H
      go_wp2
      go_meet
      case rel=>exact ⟨_,((a0 == 13)),qr,H',⟨qm⟩,qt⟩
 case rest =>
  clear HC2
  try clear c1
  try clear p2
  try clear c3
  try clear c3b0
  try clear c3b1
  try clear c4
  try clear c4b0
  try clear c4b1
  try clear c5
  try clear c5b0
  try clear c5b1
  try clear c6
  try clear c6b0
  try clear c6b1
  obtain ⟨kq,x5_1,rfl,HA,HJ1,⟨mc1,rfl⟩⟩:=hcut
  cases kq with
  | zero=>exact absurd HA.out (by simp [foretellref_PartsOf.j0])
  | succ kj1 =>
   have H:=HA.out
   clear HA
   simp only [foretellref_PartsOf.j0] at H
   by_cases c7:x5_1 = true
   ·subst c7
    have H1:(some (0,0)) = some (r1,r2):=by rw [if_pos rfl] at H;exact H
    clear H
    have H:=H1
    clear H1
    simp only [Option.some.injEq,Prod.mk.injEq] at H
    obtain ⟨rfl,rfl⟩:=H
    go_wp2
    go_ret2
    exact ⟨qr,qt⟩
   ·replace c7:=Bool.eq_false_iff.mpr c7
    subst c7
    have H1:(if a0 = 10 then (foretellref_PartsOf.j1 kj1 a0 (a0 == 10)) else (if a0 = 14 then (foretellref_PartsOf.j1 kj1 a0 (a0 == 14)) else (if a0 = 17 then (foretellref_PartsOf.j1 kj1 a0 (a0 == 17)) else (foretellref_PartsOf.j1 kj1 a0 (a0 == 18))))) = some (r1,r2):=by rw [if_neg (show ¬ (false = true) by decide)] at H;exact H
    clear H
    have H:=H1
    clear H1
    have HC8:=zA H
    clear H
    go_upto_if 11 with (fail)
    go_cut [11] (fun v11 wc=>∃ (kq:Nat) (x11_7:Bool),v11 = .bool x11_7∧Aside0 (foretellref_PartsOf.j1 kq a0 x11_7 = some (r1,r2))∧Aside0 (kq ≤ kj1)∧Drawn0 w wc)
    case first =>
     have H:=HC8.out
     clear HC8
     by_cases c9:a0 = 10
     ·rw [if_pos c9] at H
      have c9b0:(a0 == 10) = true:=beq_iff_eq.mpr c9
      have c9b1:(a0 != 10) = false:=bne_eq_false_iff_eq.mpr c9
      clear c9
      (first|rw [c9b0]|(simp only [i64_w,i32_w];rw [c9b0])|skip)
      have H':=zA H
      clear H
      go_wp2
      go_meet
      case rel=>exact ⟨_,((a0 == 10)),qr,H',⟨qo HJ1⟩,qt⟩
     ·rw [if_neg c9] at H
      have c9b0:(a0 == 10) = false:=beq_eq_false_iff_ne.mpr c9
      have c9b1:(a0 != 10) = true:=bne_iff_ne.mpr c9
      (first|rw [c9b0]|(simp only [i64_w,i32_w];rw [c9b0])|skip)
      by_cases c10:a0 = 14
      ·rw [if_pos c10] at H
       have c10b0:(a0 == 14) = true:=beq_iff_eq.mpr c10
       have c10b1:(a0 != 14) = false:=bne_eq_false_iff_eq.mpr c10
       clear c10
       have H':=zA H
       clear H
       go_wp2
       go_meet
       case rel=>exact ⟨_,((a0 == 14)),qr,H',⟨qo HJ1⟩,qt⟩
      ·rw [if_neg c10] at H
       have c10b0:(a0 == 14) = false:=beq_eq_false_iff_ne.mpr c10
       have c10b1:(a0 != 14) = true:=bne_iff_ne.mpr c10
       by_cases c11:a0 = 17
       ·rw [if_pos c11] at H
        have c11b0:(a0 == 17) = true:=beq_iff_eq.mpr c11
        have c11b1:(a0 != 17) = false:=bne_eq_false_iff_eq.mpr c11
        clear c11
        have H':=zA H
        clear H
        go_wp2
        go_meet
        case rel=>exact ⟨_,((a0 == 17)),qr,H',⟨qo HJ1⟩,qt⟩
       ·rw [if_neg c11] at H
        have c11b0:(a0 == 17) = false:=beq_eq_false_iff_ne.mpr c11
        have c11b1:(a0 != 17) = true:=bne_iff_ne.mpr c11
        have H':=zA H
        clear H
        go_wp2
        go_meet
        case rel=>exact ⟨_,((a0 == 18)),qr,H',⟨qo HJ1⟩,qt⟩
    case rest =>
     clear HC8
     try clear c1
     try clear p2
     try clear c3
     try clear c3b0
     try clear c3b1
     try clear c4
     try clear c4b0
     try clear c4b1
     try clear c5
     try clear c5b0
     try clear c5b1
     try clear c6
     try clear c6b0
     try clear c6b1
     try clear c7
     try clear c9
     try clear c9b0
     try clear c9b1
     try clear c10
     try clear c10b0
     try clear c10b1
     try clear c11
     try clear c11b0
     try clear c11b1
     try clear p2
     obtain ⟨kq,x11_7,rfl,HA,HJ7,⟨mc7,rfl⟩⟩:=hcut
     cases kq with
     | zero=>exact absurd HA.out (by simp [foretellref_PartsOf.j1])
     | succ kj7 =>
      have H:=HA.out
      clear HA
      simp only [foretellref_PartsOf.j1] at H
      by_cases c12:x11_7 = true
      ·subst c12
       have H1:(some (1,0)) = some (r1,r2):=by rw [if_pos rfl] at H;exact H
       clear H
       have H:=H1
       clear H1
       simp only [Option.some.injEq,Prod.mk.injEq] at H
       obtain ⟨rfl,rfl⟩:=H
       go_wp2
       go_ret2
       exact ⟨qr,qt⟩
      ·replace c12:=Bool.eq_false_iff.mpr c12
       subst c12
       have H1:(if a0 = 3 then (some (2,0)) else (if a0 = 4 then (some (2,0)) else (if a0 = 5 then (some (2,0)) else (if a0 = 6 then (some (2,0)) else (if a0 = 7 then (some (2,0)) else (if a0 = 8 then (some (2,0)) else (if a0 = 9 then (some (2,0)) else (if a0 = 15 then (some (2,0)) else (if a0 = 16 then (some (2,0)) else (some (0,13))))))))))) = some (r1,r2):=by rw [if_neg (show ¬ (false = true) by decide)] at H;exact H
       clear H
       have H:=H1
       clear H1
       by_cases c13:a0 = 3
       ·rw [if_pos c13] at H
        have c13b0:(a0 == 3) = true:=beq_iff_eq.mpr c13
        have c13b1:(a0 != 3) = false:=bne_eq_false_iff_eq.mpr c13
        clear c13
        simp only [Option.some.injEq,Prod.mk.injEq] at H
        obtain ⟨rfl,rfl⟩:=H
        go_wp2
        go_ret2
        exact ⟨qr,qt⟩
       ·rw [if_neg c13] at H
        have c13b0:(a0 == 3) = false:=beq_eq_false_iff_ne.mpr c13
        have c13b1:(a0 != 3) = true:=bne_iff_ne.mpr c13
        by_cases c14:a0 = 4
        ·rw [if_pos c14] at H
         have c14b0:(a0 == 4) = true:=beq_iff_eq.mpr c14
         have c14b1:(a0 != 4) = false:=bne_eq_false_iff_eq.mpr c14
         clear c14
         simp only [Option.some.injEq,Prod.mk.injEq] at H
         obtain ⟨rfl,rfl⟩:=H
         go_wp2
         go_ret2
         exact ⟨qr,qt⟩
        ·rw [if_neg c14] at H
         have c14b0:(a0 == 4) = false:=beq_eq_false_iff_ne.mpr c14
         have c14b1:(a0 != 4) = true:=bne_iff_ne.mpr c14
         by_cases c15:a0 = 5
         ·rw [if_pos c15] at H
          have c15b0:(a0 == 5) = true:=beq_iff_eq.mpr c15
          have c15b1:(a0 != 5) = false:=bne_eq_false_iff_eq.mpr c15
          clear c15
          simp only [Option.some.injEq,Prod.mk.injEq] at H
          obtain ⟨rfl,rfl⟩:=H
          go_wp2
          go_ret2
          exact ⟨qr,qt⟩
         ·rw [if_neg c15] at H
          have c15b0:(a0 == 5) = false:=beq_eq_false_iff_ne.mpr c15
          have c15b1:(a0 != 5) = true:=bne_iff_ne.mpr c15
          by_cases c16:a0 = 6
          ·rw [if_pos c16] at H
           have c16b0:(a0 == 6) = true:=beq_iff_eq.mpr c16
           have c16b1:(a0 != 6) = false:=bne_eq_false_iff_eq.mpr c16
           clear c16
           simp only [Option.some.injEq,Prod.mk.injEq] at H
           obtain ⟨rfl,rfl⟩:=H
           go_wp2
           go_ret2
           exact ⟨qr,qt⟩
          ·rw [if_neg c16] at H
           have c16b0:(a0 == 6) = false:=beq_eq_false_iff_ne.mpr c16
           have c16b1:(a0 != 6) = true:=bne_iff_ne.mpr c16
           by_cases c17:a0 = 7
           ·rw [if_pos c17] at H
            have c17b0:(a0 == 7) = true:=beq_iff_eq.mpr c17
            have c17b1:(a0 != 7) = false:=bne_eq_false_iff_eq.mpr c17
            clear c17
            simp only [Option.some.injEq,Prod.mk.injEq] at H
            obtain ⟨rfl,rfl⟩:=H
            go_wp2
            go_ret2
            exact ⟨qr,qt⟩
           ·rw [if_neg c17] at H
            have c17b0:(a0 == 7) = false:=beq_eq_false_iff_ne.mpr c17
            have c17b1:(a0 != 7) = true:=bne_iff_ne.mpr c17
            by_cases c18:a0 = 8
            ·rw [if_pos c18] at H
             have c18b0:(a0 == 8) = true:=beq_iff_eq.mpr c18
             have c18b1:(a0 != 8) = false:=bne_eq_false_iff_eq.mpr c18
             clear c18
             simp only [Option.some.injEq,Prod.mk.injEq] at H
             obtain ⟨rfl,rfl⟩:=H
             go_wp2
             go_ret2
             exact ⟨qr,qt⟩
            ·rw [if_neg c18] at H
             have c18b0:(a0 == 8) = false:=beq_eq_false_iff_ne.mpr c18
             have c18b1:(a0 != 8) = true:=bne_iff_ne.mpr c18
             by_cases c19:a0 = 9
             ·rw [if_pos c19] at H
              have c19b0:(a0 == 9) = true:=beq_iff_eq.mpr c19
              have c19b1:(a0 != 9) = false:=bne_eq_false_iff_eq.mpr c19
              clear c19
              simp only [Option.some.injEq,Prod.mk.injEq] at H
              obtain ⟨rfl,rfl⟩:=H
              go_wp2
              go_ret2
              exact ⟨qr,qt⟩
             ·rw [if_neg c19] at H
              have c19b0:(a0 == 9) = false:=beq_eq_false_iff_ne.mpr c19
              have c19b1:(a0 != 9) = true:=bne_iff_ne.mpr c19
              by_cases c20:a0 = 15
              ·rw [if_pos c20] at H
               have c20b0:(a0 == 15) = true:=beq_iff_eq.mpr c20
               have c20b1:(a0 != 15) = false:=bne_eq_false_iff_eq.mpr c20
               clear c20
               simp only [Option.some.injEq,Prod.mk.injEq] at H
               obtain ⟨rfl,rfl⟩:=H
               go_wp2
               go_ret2
               exact ⟨qr,qt⟩
              ·rw [if_neg c20] at H
               have c20b0:(a0 == 15) = false:=beq_eq_false_iff_ne.mpr c20
               have c20b1:(a0 != 15) = true:=bne_iff_ne.mpr c20
               by_cases c21:a0 = 16
               ·rw [if_pos c21] at H
                have c21b0:(a0 == 16) = true:=beq_iff_eq.mpr c21
                have c21b1:(a0 != 16) = false:=bne_eq_false_iff_eq.mpr c21
                clear c21
                simp only [Option.some.injEq,Prod.mk.injEq] at H
                obtain ⟨rfl,rfl⟩:=H
                go_wp2
                go_ret2
                exact ⟨qr,qt⟩
               ·rw [if_neg c21] at H
                have c21b0:(a0 == 16) = false:=beq_eq_false_iff_ne.mpr c21
                have c21b1:(a0 != 16) = true:=bne_iff_ne.mpr c21
                simp only [Option.some.injEq,Prod.mk.injEq] at H
                obtain ⟨rfl,rfl⟩:=H
                go_wp2
                go_ret2
                exact ⟨qr,qt⟩
end Go.Proofs.YthffpjkkmkjplaaDoor.S
namespace Go.Proofs.YthffpjkkmkjplaaDoor.S
open Go.Proofs.YthffpjkkmkjplaaDoor.Al
open Option renaming bind_eq_some_iff → zb
open Go.Proofs.YthffpjkkmkjplaaDoorW.PrintWords renaming gate_callee → zU
open Go.Proofs.YthffpjkkmkjplaaDoor.Sq
open Go.RowKit Go.Proofs.YthffpjkkmkjplaaDoorW.PrintWords Go.Proofs.YthffpjkkmkjplaaDoorW.PrintLast Go.Proofs.YthffpjkkmkjplaaDoorW.PrintMore
attribute [local go_sem] max2_int min2_int max_two min_two max_three min_three max_four min_four
set_option linter.unusedVariables false
set_option linter.unusedSimpArgs false
def foretellref_endOf.l0:Nat → List (S65) → Int → Int → Option (Int × Int)
 | 0,_,_,_=>none
 | k + 1,x0,x6,x7=>if x7 < (x0.length:Int) then (if 0 ≤ x7 then ((foretellref_PartsOf.f k ((rd_T65 x0 x7).f0)).bind fun bt273=>(if bt273.2 = 0 then (if (wrap64 ((wrap64 (x6 + bt273.1)) - 1)) = 0 then (some (wrap64 (x7 + 1),0)) else (foretellref_endOf.l0 k x0 (wrap64 ((wrap64 (x6 + bt273.1)) - 1)) (wrap64 (x7 + 1)))) else (some (0,bt273.2)))) else (none)) else (some (0,4))
def foretellref_endOf.f (k:Nat) (l0:List (S65)) (a1:Int):Option (Int × Int):=foretellref_endOf.l0 k l0 1 a1
theorem foretellref_endOf.mono_l:∀ k,(∀ y0 y1 y2,LeO (foretellref_endOf.l0 k y0 y1 y2) (foretellref_endOf.l0 (k + 1) y0 y1 y2))
 | 0=>fun _ _ _ r h=>by simp [foretellref_endOf.l0] at h
 | k + 1=>by
  have ih0:=foretellref_endOf.mono_l k
  ·intro y0 y1 y2
   unfold foretellref_endOf.l0
   exact qM @foretellref_PartsOf.mono
theorem foretellref_endOf.mono:∀ a0 a1 k,LeO (foretellref_endOf.f k a0 a1) (foretellref_endOf.f (k + 1) a0 a1):=by
 intro a0 a1 k
 have ih0:=foretellref_endOf.mono_l k
 unfold foretellref_endOf.f
 exact qM @foretellref_PartsOf.mono
set_option maxHeartbeats 8000000 in
set_option maxRecDepth 100000 in
theorem foretellref_endOf.calls (k:Nat) (A0:Option Addr) (c0:Nat) (l0:List (S65)) (a1:Int) (r1:Int) (r2:Int) (w:World) (hr0:Kd.C k65 w A0 l0.length l0) (hc0:l0.length ≤ c0) (h:foretellref_endOf.f k l0 a1 = some (r1,r2)) :
  Calls Tryd.prog 91 #[.slice A0 l0.length c0,.int .i64 a1] w fun e w'=>e = .returned (.tuple #[.int .i64 r1,.int .i64 r2])∧Drawn0 w w':=by
 have HR0:=zA hr0
 have HC0:=zA hc0
 clear hr0 hc0
 have H:(foretellref_endOf.l0 k l0 1 a1) = some (r1,r2):=h
 clear h
 have H':=zA H
 clear H
 go_enter Tryd.func91,Tryd.ntmps91
 go_wp2
 go_loopg [6,7] k (fun kq v6 v7 w'=>∃ (x6_1:Int) (x7_1:Int),v6 = .int .i64 x6_1∧v7 = .int .i64 x7_1∧Aside0 (foretellref_endOf.l0 kq l0 x6_1 x7_1 = some (r1,r2))∧Aside0 (kq ≤ k)∧Drawn0 w w')
 case atStart=>exact ⟨(1),(a1),qr,qr,H',⟨Nat.le_refl _⟩,qt⟩
 case round =>
  clear H'
  try clear p2
  obtain ⟨x6_1,x7_1,rfl,rfl,HA,HK1,⟨m1,rfl⟩⟩:=hrel
  cases gk with
  | zero=>exact absurd HA.out (by simp [foretellref_endOf.l0])
  | succ k1 =>
   have H:=HA.out
   clear HA
   simp only [foretellref_endOf.l0] at H
   rcases qj H with ⟨c3b0,H⟩|⟨c3b0,H⟩
   ·rcases qj H with ⟨c4b0,H⟩|⟨c4,H⟩
    ·replace H:=zb.mp H
     obtain ⟨⟨t273,t274⟩,A50,H⟩:=H
     replace H:(if t274 = 0 then (if (wrap64 ((wrap64 (x6_1 + t273)) - 1)) = 0 then (some (wrap64 (x7_1 + 1),0)) else (foretellref_endOf.l0 k1 l0 (wrap64 ((wrap64 (x6_1 + t273)) - 1)) (wrap64 (x7_1 + 1)))) else (some (0,t274))) = some (r1,r2):=H
     have A5:=zA A50
     clear A50
     by_cases c6:t274 = 0
     ·rw [if_pos c6] at H
      have c6b0:(t274 == 0) = true:=beq_iff_eq.mpr c6
      have c6b1:(t274 != 0) = false:=bne_eq_false_iff_eq.mpr c6
      clear c6
      by_cases c7:(wrap64 ((wrap64 (x6_1 + t273)) - 1)) = 0
      ·rw [if_pos c7] at H
       have c7b0:((wrap64 ((wrap64 (x6_1 + t273)) - 1)) == 0) = true:=beq_iff_eq.mpr c7
       have c7b1:((wrap64 ((wrap64 (x6_1 + t273)) - 1)) != 0) = false:=bne_eq_false_iff_eq.mpr c7
       clear c7
       simp only [Option.some.injEq,Prod.mk.injEq] at H
       obtain ⟨rfl,rfl⟩:=H
       have p272:0 ≤ (x7_1:Int):=qd
       have q272:x7_1 < (l0.length:Int):=qd
       obtain ⟨ad272,e272,hx272_0,hx272_1⟩:=at_T65 HR0.out x7_1 p272 q272
       cases e272
       replace p272:=eq_true p272
       replace q272:=eq_true q272
       go_wp2_with (first|((with_reducible refine zU (f:=109) rfl ?_);refine gL (some 23) Tryd.func109 #[.int .i64 ((rd_T65 l0 x7_1).f0)] ?_;(with_reducible refine (foretellref_PartsOf.calls k1 ((rd_T65 l0 x7_1).f0) t273 t274 _ A5.out).mono ?_);rintro e w' ⟨rfl,⟨nd,rfl⟩⟩;refine ⟨_,rfl,?_⟩))
       go_ret2
       exact ⟨qr,qt⟩
      ·rw [if_neg c7] at H
       have c7b0:((wrap64 ((wrap64 (x6_1 + t273)) - 1)) == 0) = false:=beq_eq_false_iff_ne.mpr c7
       have c7b1:((wrap64 ((wrap64 (x6_1 + t273)) - 1)) != 0) = true:=bne_iff_ne.mpr c7
       have H':=zA H
       clear H
       have p272:0 ≤ (x7_1:Int):=qd
       have q272:x7_1 < (l0.length:Int):=qd
       obtain ⟨ad272,e272,hx272_0,hx272_1⟩:=at_T65 HR0.out x7_1 p272 q272
       cases e272
       replace p272:=eq_true p272
       replace q272:=eq_true q272
       go_wp2_with (first|((with_reducible refine zU (f:=109) rfl ?_);refine gL (some 23) Tryd.func109 #[.int .i64 ((rd_T65 l0 x7_1).f0)] ?_;(with_reducible refine (foretellref_PartsOf.calls k1 ((rd_T65 l0 x7_1).f0) t273 t274 _ A5.out).mono ?_);rintro e w' ⟨rfl,⟨nd,rfl⟩⟩;refine ⟨_,rfl,?_⟩))
       go_roundg k1
       case measure=>have:=HK1.out;omega
       case rel=>exact ⟨(wrap64 ((wrap64 (x6_1 + t273)) - 1)),(wrap64 (x7_1 + 1)),qr,qr,H',⟨qo HK1⟩,qt⟩
     ·rw [if_neg c6] at H
      have c6b0:(t274 == 0) = false:=beq_eq_false_iff_ne.mpr c6
      have c6b1:(t274 != 0) = true:=bne_iff_ne.mpr c6
      simp only [Option.some.injEq,Prod.mk.injEq] at H
      obtain ⟨rfl,rfl⟩:=H
      have p272:0 ≤ (x7_1:Int):=qd
      have q272:x7_1 < (l0.length:Int):=qd
      obtain ⟨ad272,e272,hx272_0,hx272_1⟩:=at_T65 HR0.out x7_1 p272 q272
      cases e272
      replace p272:=eq_true p272
      replace q272:=eq_true q272
      go_wp2_with (first|((with_reducible refine zU (f:=109) rfl ?_);refine gL (some 23) Tryd.func109 #[.int .i64 ((rd_T65 l0 x7_1).f0)] ?_;(with_reducible refine (foretellref_PartsOf.calls k1 ((rd_T65 l0 x7_1).f0) t273 t274 _ A5.out).mono ?_);rintro e w' ⟨rfl,⟨nd,rfl⟩⟩;refine ⟨_,rfl,?_⟩))
      go_ret2
      exact ⟨qr,qt⟩
    ·exact absurd H (by simp)
   ·simp only [Option.some.injEq,Prod.mk.injEq] at H
    obtain ⟨rfl,rfl⟩:=H
    go_wp2
    go_ret2
    exact ⟨qr,qt⟩
def foretellref_EndsOf.l0:Nat → List (S65) → List Int → Int → Option (List Int × Int)
 | 0,_,_,_=>none
 | k + 1,x0,x6,x7=>if x7 < (x0.length:Int) then ((foretellref_endOf.f k x0 x7).bind fun bt277=>(if x6.length < 17592186044416 then (foretellref_EndsOf.l0 k x0 (x6 ++ [bt277.1]) (wrap64 (x7 + 1))) else (none))) else (some (x6,0))
def foretellref_EndsOf.f (k:Nat) (l0:List (S65)):Option (List Int × Int):=if (l0.length:Int) > 60 then (some (([]:List Int),1)) else ((foretellref_endOf.f k l0 0).bind fun bt275=>(if bt275.2 = 0 then (if bt275.1 < (l0.length:Int) then (some (([]:List Int),3)) else (foretellref_EndsOf.l0 k l0 ([]:List Int) 0)) else (some (([]:List Int),bt275.2))))
theorem foretellref_EndsOf.mono_l:∀ k,(∀ y0 y1 y2,LeO (foretellref_EndsOf.l0 k y0 y1 y2) (foretellref_EndsOf.l0 (k + 1) y0 y1 y2))
 | 0=>fun _ _ _ r h=>by simp [foretellref_EndsOf.l0] at h
 | k + 1=>by
  have ih0:=foretellref_EndsOf.mono_l k
  ·intro y0 y1 y2
   unfold foretellref_EndsOf.l0
   exact qM @foretellref_endOf.mono
theorem foretellref_EndsOf.mono:∀ a0 k,LeO (foretellref_EndsOf.f k a0) (foretellref_EndsOf.f (k + 1) a0):=by
 intro a0 k
 have ih0:=foretellref_EndsOf.mono_l k
 unfold foretellref_EndsOf.f
 exact qM @foretellref_endOf.mono
set_option maxHeartbeats 8000000 in
set_option maxRecDepth 100000 in
theorem foretellref_EndsOf.calls (k:Nat) (A0:Option Addr) (c0:Nat) (l0:List (S65)) (r1:List Int) (r2:Int) (w:World) (hr0:Kd.C k65 w A0 l0.length l0) (hc0:l0.length ≤ c0) (h:foretellref_EndsOf.f k l0 = some (r1,r2)) :
  Calls Tryd.prog 74 #[.slice A0 l0.length c0] w fun e w'=>∃ v0_:Value,e = .returned (.tuple #[v0_,.int .i64 r2])∧Kd.R (Kd.int .i64) 3 w' w.heap.size (fun _=>True) v0_ r1∧Below w.heap.size w w':=by
 have HR0:=zA hr0
 have HC0:=zA hc0
 clear hr0 hc0
 have HB:=zA (Below.refl w.heap.size w)
 have H:(if (l0.length:Int) > 60 then (some (([]:List Int),1)) else ((foretellref_endOf.f k l0 0).bind fun bt275=>(if bt275.2 = 0 then (if bt275.1 < (l0.length:Int) then (some (([]:List Int),3)) else (foretellref_EndsOf.l0 k l0 ([]:List Int) 0)) else (some (([]:List Int),bt275.2))))) = some (r1,r2):=h
 clear h
 by_cases c2:(l0.length:Int) > 60
 ·rw [if_pos c2] at H
  have c2b0:decide (60 < (l0.length:Int)) = true:=zQ c2
  have c2b1:decide (60 < l0.length) = true:=zQ (by omega)
  clear c2
  simp only [Option.some.injEq,Prod.mk.injEq] at H
  obtain ⟨rfl,rfl⟩:=H
  go_enter Tryd.func74,Tryd.ntmps74
  go_wp2
  go_ret2
  exact ⟨_,qe,ql,qb⟩
 ·rw [if_neg c2] at H
  have c2b0:decide (60 < (l0.length:Int)) = false:=zR c2
  have c2b1:decide (60 < l0.length) = false:=zR (by omega)
  clear c2
  replace H:=zb.mp H
  obtain ⟨⟨t275,t276⟩,A30,H⟩:=H
  replace H:(if t276 = 0 then (if t275 < (l0.length:Int) then (some (([]:List Int),3)) else (foretellref_EndsOf.l0 k l0 ([]:List Int) 0)) else (some (([]:List Int),t276))) = some (r1,r2):=H
  have A3:=zA A30
  clear A30
  by_cases c4:t276 = 0
  ·rw [if_pos c4] at H
   have c4b0:(t276 == 0) = true:=beq_iff_eq.mpr c4
   have c4b1:(t276 != 0) = false:=bne_eq_false_iff_eq.mpr c4
   clear c4
   rcases qj H with ⟨c5b0,H⟩|⟨c5b0,H⟩
   ·simp only [Option.some.injEq,Prod.mk.injEq] at H
    obtain ⟨rfl,rfl⟩:=H
    go_enter Tryd.func74,Tryd.ntmps74
    go_wp2_with (first|((with_reducible refine zU (f:=91) rfl ?_);refine gL (some 15) Tryd.func91 #[.slice A0 l0.length c0,.int .i64 0] ?_;(with_reducible refine (foretellref_endOf.calls k _ _ l0 0 t275 t276 _ (qu HR0.out) HC0.out A3.out).mono ?_);rintro e w' ⟨rfl,⟨nd,rfl⟩⟩;refine ⟨_,rfl,?_⟩))
    go_ret2
    exact ⟨_,qe,ql,qb⟩
   ·have H':=zA H
    clear H
    go_enter Tryd.func74,Tryd.ntmps74
    go_wp2_with (first|((with_reducible refine zU (f:=91) rfl ?_);refine gL (some 15) Tryd.func91 #[.slice A0 l0.length c0,.int .i64 0] ?_;(with_reducible refine (foretellref_endOf.calls k _ _ l0 0 t275 t276 _ (qu HR0.out) HC0.out A3.out).mono ?_);rintro e w' ⟨rfl,⟨nd,rfl⟩⟩;refine ⟨_,rfl,?_⟩))
    go_loopg [6,7] k (fun kq v6 v7 w'=>∃ (x6_1:List Int) (x7_1:Int),v7 = .int .i64 x7_1∧Aside0 (foretellref_EndsOf.l0 kq l0 x6_1 x7_1 = some (r1,r2))∧Aside0 (kq ≤ k)∧Aside0 (Kd.R (Kd.int .i64) 3 w' w.heap.size (fun _=>True) v6 x6_1)∧Aside0 (Below w.heap.size w w'))
    case atStart=>exact ⟨(([]:List Int)),(0),qr,H',⟨Nat.le_refl _⟩,⟨ql⟩,⟨qb⟩⟩
    case round =>
     clear H'
     try clear c2
     try clear c2b0
     try clear c2b1
     try clear p2
     try clear c4
     try clear c4b0
     try clear c4b1
     try clear c5
     try clear c5b0
     obtain ⟨x6_1,x7_1,rfl,HA,HK1,HO_6,HB⟩:=hrel
     cases gk with
     | zero=>exact absurd HA.out (by simp [foretellref_EndsOf.l0])
     | succ k1 =>
      have H:=HA.out
      clear HA
      simp only [foretellref_EndsOf.l0] at H
      rcases qj H with ⟨c6b0,H⟩|⟨c6b0,H⟩
      ·replace H:=zb.mp H
       obtain ⟨⟨t277,t278⟩,A70,H⟩:=H
       replace H:(if x6_1.length < 17592186044416 then (foretellref_EndsOf.l0 k1 l0 (x6_1 ++ [t277]) (wrap64 (x7_1 + 1))) else (none)) = some (r1,r2):=H
       have A7:=zA A70
       clear A70
       by_cases c8:x6_1.length < 17592186044416
       ·rw [if_pos c8] at H
        have LMc8:=zA c8
        clear c8
        obtain ⟨y279,hy279⟩:∃ y_:List Int,y_ = (x6_1 ++ [t277]):=⟨_,rfl⟩
        replace H:(foretellref_EndsOf.l0 k1 l0 y279 (wrap64 (x7_1 + 1))) = some (r1,r2):=by first|(rw [hy279];with_reducible exact H)|(have H2_:=(Option.bind_some _ _).symm.trans H;rw [hy279];with_reducible exact H2_)|(have H2_:=(Option.bind_some _ _).symm.trans H;with_reducible exact H2_)|with_reducible exact H|(rw [hy279];exact H)|exact H
        have Ny279:=zA hy279
        clear hy279
        have H':=zA H
        clear H
        go_wp2_with (first|((with_reducible refine zU (f:=91) rfl ?_);refine gL (some 34) Tryd.func91 #[.slice A0 l0.length c0,.int .i64 x7_1] ?_;(with_reducible refine (foretellref_endOf.calls k1 _ _ l0 x7_1 t277 t278 _ (qc HR0) HC0.out A7.out).mono ?_);rintro e w' ⟨rfl,⟨nd,rfl⟩⟩;refine ⟨_,rfl,?_⟩)|((with_reducible refine gate_builtin (b:=.append) (xs:=#[.tmp 37,.tmp 39]) rfl ?_);at_builtin;refine Kd.R_append (Kd.int .i64) (w0:=w) w.heap.size rfl (.tmp 37) (.tmp 39) 37 3 (.int .i64 0) 8 rfl Tryd.underlying37 info3 rfl (by decide) (by omega) u6 x6_1 t277 [.int .i64 t277] (fun _=>True) (fun _=>False) rfl rfl rfl (fun _ hk=>hk.elim) (fun _ _=>trivial) (qR HO_6) qb qs (qo LMc8) ?_;intro v280 w9 ho hb hg hat;rw [← Ny279.out] at ho;replace HB:=zA (hb);have HO281:=zA (ho);clear HO_6;clear ho hb hg hat))
        go_roundg k1
        case measure=>have:=HK1.out;omega
        case rel=>exact ⟨(y279),(wrap64 (x7_1 + 1)),qr,H',⟨qo HK1⟩,⟨qR HO281⟩,⟨qb⟩⟩
       ·rw [if_neg c8] at H
        exact absurd H (by simp)
      ·simp only [Option.some.injEq,Prod.mk.injEq] at H
       obtain ⟨rfl,rfl⟩:=H
       go_wp2
       go_ret2
       exact ⟨_,qe,qR HO_6,qb⟩
  ·rw [if_neg c4] at H
   have c4b0:(t276 == 0) = false:=beq_eq_false_iff_ne.mpr c4
   have c4b1:(t276 != 0) = true:=bne_iff_ne.mpr c4
   simp only [Option.some.injEq,Prod.mk.injEq] at H
   obtain ⟨rfl,rfl⟩:=H
   go_enter Tryd.func74,Tryd.ntmps74
   go_wp2_with (first|((with_reducible refine zU (f:=91) rfl ?_);refine gL (some 15) Tryd.func91 #[.slice A0 l0.length c0,.int .i64 0] ?_;(with_reducible refine (foretellref_endOf.calls k _ _ l0 0 t275 t276 _ (qu HR0.out) HC0.out A3.out).mono ?_);rintro e w' ⟨rfl,⟨nd,rfl⟩⟩;refine ⟨_,rfl,?_⟩))
   go_ret2
   exact ⟨_,qe,ql,qb⟩
def foretellref_makesTruth.f (a0:Int):Option (Bool):=(foretellref_In.f a0 6 12).bind fun t303=>(some t303)
set_option maxHeartbeats 8000000 in
set_option maxRecDepth 100000 in
theorem foretellref_makesTruth.calls (a0:Int) (r:Bool) (w:World) (h:foretellref_makesTruth.f a0 = some r) :
  Calls Tryd.prog 107 #[.int .i64 a0] w fun e w'=>e = .returned (.bool r)∧Drawn0 w w':=by
 have H:((foretellref_In.f a0 6 12).bind fun t303=>(some t303)) = some r:=h
 clear h
 replace H:=zb.mp H
 obtain ⟨t303,A20,H⟩:=H
 replace H:(some t303) = some r:=H
 have A2:=zA A20
 clear A20
 obtain rfl:=Option.some.inj H
 go_enter Tryd.func107,Tryd.ntmps107
 go_wp2_with (first|((with_reducible refine zU (f:=50) rfl ?_);refine gL (some 4) Tryd.func50 #[.int .i64 a0,.int .i64 6,.int .i64 12] ?_;(with_reducible refine (foretellref_In.calls a0 6 12 t303 _ A2.out).mono ?_);rintro e w' ⟨rfl,⟨nd,rfl⟩⟩;refine ⟨_,rfl,?_⟩))
 go_ret
 exact ⟨qr,qt⟩
end Go.Proofs.YthffpjkkmkjplaaDoor.S
namespace Go.Proofs.YthffpjkkmkjplaaDoor.S
open Go.Proofs.YthffpjkkmkjplaaDoor.Al
open Go.Proofs.YthffpjkkmkjplaaDoorW.PrintWords
open Go.Proofs.YthffpjkkmkjplaaDoor.Sq
open Go.RowKit Go.Proofs.YthffpjkkmkjplaaDoorW.PrintWords Go.Proofs.YthffpjkkmkjplaaDoorW.PrintLast Go.Proofs.YthffpjkkmkjplaaDoorW.PrintMore
attribute [local go_sem] max2_int min2_int max_two min_two max_three min_three max_four min_four
set_option linter.unusedVariables false
set_option linter.unusedSimpArgs false
def foretellref_Ops.l0:Nat → List (S65) → Int → List (S65) → Int → Option ((List (S65)))
 | 0,_,_,_,_=>none
 | k + 1,x0,x2,x7,x8=>if x8 < x2 then (if 0 ≤ x8 then (if x8 < (x0.length:Int) then (if x7.length < 8796093022208 then (foretellref_Ops.l0 k x0 x2 (x7 ++ [(⟨(rd_T65 x0 x8).f0,(rd_T65 x0 x8).f1⟩:S65)]) (wrap64 (x8 + 1))) else (none)) else (none)) else (none)) else (some x7)
def foretellref_Ops.f (k:Nat) (l0:List (S65)) (a1:Int) (a2:Int):Option ((List (S65))):=foretellref_Ops.l0 k l0 a2 ([]:List (S65)) a1
theorem foretellref_Ops.mono_l:∀ k,(∀ y0 y1 y2 y3,LeO (foretellref_Ops.l0 k y0 y1 y2 y3) (foretellref_Ops.l0 (k + 1) y0 y1 y2 y3))
 | 0=>fun _ _ _ _ r h=>by simp [foretellref_Ops.l0] at h
 | k + 1=>by
  have ih0:=foretellref_Ops.mono_l k
  ·intro y0 y1 y2 y3
   unfold foretellref_Ops.l0
   exact qL
theorem foretellref_Ops.mono:∀ a0 a1 a2 k,LeO (foretellref_Ops.f k a0 a1 a2) (foretellref_Ops.f (k + 1) a0 a1 a2):=by
 intro a0 a1 a2 k
 have ih0:=foretellref_Ops.mono_l k
 unfold foretellref_Ops.f
 exact qL
set_option maxHeartbeats 8000000 in
set_option maxRecDepth 100000 in
theorem foretellref_Ops.calls (k:Nat) (A0:Option Addr) (c0:Nat) (l0:List (S65)) (a1:Int) (a2:Int) (r:List (S65)) (w:World) (hr0:Kd.C k65 w A0 l0.length l0) (hc0:l0.length ≤ c0) (h:foretellref_Ops.f k l0 a1 a2 = some r) :
  Calls Tryd.prog 113 #[.slice A0 l0.length c0,.int .i64 a1,.int .i64 a2] w fun e w'=>∃ v0_:Value,e = .returned (v0_)∧Kd.R k65 65 w' w.heap.size (fun _=>True) v0_ r∧Below w.heap.size w w':=by
 have hu65:=Tryd.underlying65
 have HR0:=zA hr0
 have HC0:=zA hc0
 clear hr0 hc0
 have HB:=zA (Below.refl w.heap.size w)
 have H:(foretellref_Ops.l0 k l0 a2 ([]:List (S65)) a1) = some r:=h
 clear h
 have H':=zA H
 clear H
 go_enter Tryd.func113,Tryd.ntmps113
 go_wp2
 go_loopg [7,8] k (fun kq v7 v8 w'=>∃ (x7_1:List (S65)) (x8_1:Int),v8 = .int .i64 x8_1∧Aside0 (foretellref_Ops.l0 kq l0 a2 x7_1 x8_1 = some r)∧Aside0 (kq ≤ k)∧Aside0 (Kd.R k65 65 w' w.heap.size (fun _=>True) v7 x7_1)∧Aside0 (Below w.heap.size w w'))
 case atStart=>exact ⟨(([]:List (S65))),(a1),qr,H',⟨Nat.le_refl _⟩,⟨ql⟩,⟨qb⟩⟩
 case round =>
  clear H'
  try clear c1
  try clear p2
  obtain ⟨x7_1,x8_1,rfl,HA,HK1,HO_7,HB⟩:=hrel
  cases gk with
  | zero=>exact absurd HA.out (by simp [foretellref_Ops.l0])
  | succ k1 =>
   have H:=HA.out
   clear HA
   simp only [foretellref_Ops.l0] at H
   rcases qj H with ⟨c4b0,H⟩|⟨c4b0,H⟩
   ·rcases qj H with ⟨c5b0,H⟩|⟨c5,H⟩
    ·rcases qj H with ⟨c6b0,H⟩|⟨c6,H⟩
     ·by_cases c7:x7_1.length < 8796093022208
      ·rw [if_pos c7] at H
       have LMc7:=zA c7
       clear c7
       obtain ⟨y305,hy305⟩:∃ y_:List (S65),y_ = (x7_1 ++ [(⟨(rd_T65 l0 x8_1).f0,(rd_T65 l0 x8_1).f1⟩:S65)]):=⟨_,rfl⟩
       replace H:(foretellref_Ops.l0 k1 l0 a2 y305 (wrap64 (x8_1 + 1))) = some r:=by first|(rw [hy305];with_reducible exact H)|(have H2_:=(Option.bind_some _ _).symm.trans H;rw [hy305];with_reducible exact H2_)|(have H2_:=(Option.bind_some _ _).symm.trans H;with_reducible exact H2_)|with_reducible exact H|(rw [hy305];exact H)|exact H
       have Ny305:=zA hy305
       clear hy305
       have H':=zA H
       clear H
       have p304:0 ≤ (x8_1:Int):=qd
       have q304:x8_1 < (l0.length:Int):=qd
       obtain ⟨ad304,e304,hx304_0,hx304_1⟩:=at_T65 HR0.out x8_1 p304 q304
       cases e304
       replace hx304_0:=qy HB hx304_0
       replace hx304_1:=qy HB hx304_1
       replace p304:=eq_true p304
       replace q304:=eq_true q304
       go_wp2_with (first|((with_reducible refine gate_builtin (b:=.append) (xs:=#[.tmp 15,.tmp 20]) rfl ?_);at_builtin;refine Kd.R_append k65 (w0:=w) w.heap.size rfl (.tmp 15) (.tmp 20) 22 65 (.agg #[(.int .i64 0),(.int .i64 0)]) 16 rfl Tryd.underlying22 info65 rfl (by decide) (by omega) u7 x7_1 (⟨(rd_T65 l0 x8_1).f0,(rd_T65 l0 x8_1).f1⟩:S65) [.int .i64 ((rd_T65 l0 x8_1).f0),.int .i64 ((rd_T65 l0 x8_1).f1)] (fun _=>True) (fun _=>False) rfl rfl (k65_mkM _ _ _ (⟨(rd_T65 l0 x8_1).f0,(rd_T65 l0 x8_1).f1⟩:S65)) (fun _ hk=>hk.elim) (fun _ _=>trivial) (qR HO_7) qb qs (qo LMc7) ?_;intro v306 w8 ho hb hg hat;rw [← Ny305.out] at ho;replace HB:=zA (hb);have HO307:=zA (ho);clear HO_7;clear ho hb hg hat))
       go_roundg k1
       case measure=>have:=HK1.out;omega
       case rel=>exact ⟨(y305),(wrap64 (x8_1 + 1)),qr,H',⟨qo HK1⟩,⟨qR HO307⟩,⟨qb⟩⟩
      ·rw [if_neg c7] at H
       exact absurd H (by simp)
     ·exact absurd H (by simp)
    ·exact absurd H (by simp)
   ·obtain rfl:=Option.some.inj H
    go_wp2
    go_ret
    exact ⟨_,qe,qR HO_7,qb⟩
end Go.Proofs.YthffpjkkmkjplaaDoor.S
namespace Go.Proofs.YthffpjkkmkjplaaDoor.S
open Go.Proofs.YthffpjkkmkjplaaDoor.Al
open Option renaming bind_eq_some_iff → zb
open Go.Proofs.YthffpjkkmkjplaaDoorW.PrintWords renaming below_step → zH, Kd.C_below → zT, gate_callee → zU
open Go.Proofs.YthffpjkkmkjplaaDoor.Sq
open Go.RowKit Go.Proofs.YthffpjkkmkjplaaDoorW.PrintWords Go.Proofs.YthffpjkkmkjplaaDoorW.PrintLast Go.Proofs.YthffpjkkmkjplaaDoorW.PrintMore
attribute [local go_sem] max2_int min2_int max_two min_two max_three min_three max_four min_four
set_option linter.unusedVariables false
set_option linter.unusedSimpArgs false
def foretellref_SplitOf.l0:Nat → List (S65) → List (List (S65)) → Int → Int → Int → Option ((List (List (S65))) × Int)
 | 0,_,_,_,_,_=>none
 | k + 1,x0,x6,x7,x9,x10=>if x10 < x7 then ((foretellref_endOf.f k x0 x9).bind fun bt315=>((foretellref_Ops.f k x0 x9 bt315.1).bind fun t317=>(if x6.length < 5864062014805 then (foretellref_SplitOf.l0 k x0 (x6 ++ [t317]) x7 bt315.1 (wrap64 (x10 + 1))) else (none)))) else (some (x6,0))
def foretellref_SplitOf.f (k:Nat) (l0:List (S65)):Option ((List (List (S65))) × Int):=(foretellref_EndsOf.f k l0).bind fun bt308=>(if bt308.2 = 0 then (if 0 < (l0.length:Int) then ((foretellref_PartsOf.f k ((rd_T65 l0 0).f0)).bind fun bt313=>(foretellref_SplitOf.l0 k l0 ([]:List (List (S65))) bt313.1 1 0)) else (none)) else (some (([]:List (List (S65))),bt308.2)))
theorem foretellref_SplitOf.mono_l:∀ k,(∀ y0 y1 y2 y3 y4,LeO (foretellref_SplitOf.l0 k y0 y1 y2 y3 y4) (foretellref_SplitOf.l0 (k + 1) y0 y1 y2 y3 y4))
 | 0=>fun _ _ _ _ _ r h=>by simp [foretellref_SplitOf.l0] at h
 | k + 1=>by
  have ih0:=foretellref_SplitOf.mono_l k
  ·intro y0 y1 y2 y3 y4
   unfold foretellref_SplitOf.l0
   exact qM (And.intro @foretellref_EndsOf.mono (And.intro @foretellref_Ops.mono (And.intro @foretellref_PartsOf.mono @foretellref_endOf.mono)))
theorem foretellref_SplitOf.mono:∀ a0 k,LeO (foretellref_SplitOf.f k a0) (foretellref_SplitOf.f (k + 1) a0):=by
 intro a0 k
 have ih0:=foretellref_SplitOf.mono_l k
 unfold foretellref_SplitOf.f
 exact qM (And.intro @foretellref_EndsOf.mono (And.intro @foretellref_Ops.mono (And.intro @foretellref_PartsOf.mono @foretellref_endOf.mono)))
set_option maxHeartbeats 8000000 in
set_option maxRecDepth 100000 in
theorem foretellref_SplitOf.calls (k:Nat) (A0:Option Addr) (c0:Nat) (l0:List (S65)) (r1:List (List (S65))) (r2:Int) (w:World) (hr0:Kd.C k65 w A0 l0.length l0) (hc0:l0.length ≤ c0) (h:foretellref_SplitOf.f k l0 = some (r1,r2)) :
  Calls Tryd.prog 108 #[.slice A0 l0.length c0] w fun e w'=>∃ v0_:Value,e = .returned (.tuple #[v0_,.int .i64 r2])∧Kd.S (Kd.slice 65 k65) 22 w' w.heap.size (fun _=>True) v0_ r1∧Below w.heap.size w w':=by
 have HR0:=zA hr0
 have HC0:=zA hc0
 clear hr0 hc0
 have HB:=zA (Below.refl w.heap.size w)
 have H:((foretellref_EndsOf.f k l0).bind fun bt308=>(if bt308.2 = 0 then (if 0 < (l0.length:Int) then ((foretellref_PartsOf.f k ((rd_T65 l0 0).f0)).bind fun bt313=>(foretellref_SplitOf.l0 k l0 ([]:List (List (S65))) bt313.1 1 0)) else (none)) else (some (([]:List (List (S65))),bt308.2)))) = some (r1,r2):=h
 clear h
 replace H:=zb.mp H
 obtain ⟨⟨t308,t309⟩,A20,H⟩:=H
 replace H:(if t309 = 0 then (if 0 < (l0.length:Int) then ((foretellref_PartsOf.f k ((rd_T65 l0 0).f0)).bind fun bt313=>(foretellref_SplitOf.l0 k l0 ([]:List (List (S65))) bt313.1 1 0)) else (none)) else (some (([]:List (List (S65))),t309))) = some (r1,r2):=H
 have A2:=zA A20
 clear A20
 by_cases c3:t309 = 0
 ·rw [if_pos c3] at H
  have c3b0:(t309 == 0) = true:=beq_iff_eq.mpr c3
  have c3b1:(t309 != 0) = false:=bne_eq_false_iff_eq.mpr c3
  clear c3
  by_cases c4:0 < (l0.length:Int)
  ·rw [if_pos c4] at H
   have c4b0:decide (0 < (l0.length:Int)) = true:=zQ c4
   have c4b1:decide (0 < l0.length) = true:=zQ (by omega)
   clear c4
   replace H:=zb.mp H
   obtain ⟨⟨t313,t314⟩,A50,H⟩:=H
   replace H:(foretellref_SplitOf.l0 k l0 ([]:List (List (S65))) t313 1 0) = some (r1,r2):=H
   have A5:=zA A50
   clear A50
   have H':=zA H
   clear H
   go_enter Tryd.func108,Tryd.ntmps108
   go_wp2_with (first|((with_reducible refine zU (f:=74) rfl ?_);refine gL (some 16) Tryd.func74 #[.slice A0 l0.length c0] ?_;(with_reducible refine (foretellref_EndsOf.calls k _ _ l0 t308 t309 _ (qu HR0.out) HC0.out A2.out).mono ?_);rintro e w6 ⟨v310,rfl,ho0,hb⟩;refine ⟨_,rfl,?_⟩;have HO311:=zA (Kd.R_lower ho0 qs);replace HB:=zA (zH qb hb);clear ho0 hb;have p312:0 ≤ (0:Int):=(by omega);have q312:0 < (l0.length:Int):=qd;obtain ⟨ad312,e312,hx312_0,hx312_1⟩:=at_T65 HR0.out 0 p312 q312;cases e312;have qi312:(0 < l0.length) = True:=eq_true (by omega);(try rw [show ((0:Int)).toNat = 0 from rfl] at hx312_0);(try rw [show 0 * 2 = 0 from rfl] at hx312_0);(try rw [Addr.add_zero'] at hx312_0);(try rw [show ((0:Int)).toNat = 0 from rfl] at hx312_1);(try rw [show 0 * 2 = 0 from rfl] at hx312_1);(try rw [Addr.add_zero'] at hx312_1);replace hx312_0:=qy HB hx312_0;replace hx312_1:=qy HB hx312_1;replace p312:=eq_true p312;replace q312:=eq_true q312)|((with_reducible refine zU (f:=109) rfl ?_);refine gL (some 27) Tryd.func109 #[.int .i64 ((rd_T65 l0 0).f0)] ?_;(with_reducible refine (foretellref_PartsOf.calls k ((rd_T65 l0 0).f0) t313 t314 _ A5.out).mono ?_);rintro e w' ⟨rfl,⟨nd,rfl⟩⟩;refine ⟨_,rfl,?_⟩))
   go_loopg [6,9,10] k (fun kq v6 v9 v10 w'=>∃ (x6_1:List (List (S65))) (x9_1:Int) (x10_1:Int),v9 = .int .i64 x9_1∧v10 = .int .i64 x10_1∧Aside0 (foretellref_SplitOf.l0 kq l0 x6_1 t313 x9_1 x10_1 = some (r1,r2))∧Aside0 (kq ≤ k)∧Aside0 (Kd.S (Kd.slice 65 k65) 22 w' w.heap.size (fun _=>True) v6 x6_1)∧Aside0 (Below w.heap.size w w'))
   case atStart=>exact ⟨(([]:List (List (S65)))),(1),(0),qr,qr,H',⟨Nat.le_refl _⟩,⟨by first|exact Kd.S_nil _ _ _ _ _|exact Kd.N_nil _ _ _ _ _|exact Kd.V_nil _ _ _ _ _|exact Kd.Q_nil _ _ _ _ _|exact Kd.R_nil _ _ _ _ _⟩,⟨qb⟩⟩
   case round =>
    clear H'
    try clear c1
    try clear p2
    try clear c3
    try clear c3b0
    try clear c3b1
    try clear p3
    try clear q3
    try clear hx3
    try clear qi3
    try clear c4
    try clear c4b0
    try clear c4b1
    try clear hx312_0
    try clear hx312_1
    try clear p312
    try clear q312
    obtain ⟨x6_1,x9_1,x10_1,rfl,rfl,HA,HK1,HO_6,HB⟩:=hrel
    cases gk with
    | zero=>exact absurd HA.out (by simp [foretellref_SplitOf.l0])
    | succ k1 =>
     have H:=HA.out
     clear HA
     simp only [foretellref_SplitOf.l0] at H
     rcases qj H with ⟨c7b0,H⟩|⟨c7b0,H⟩
     ·replace H:=zb.mp H
      obtain ⟨⟨t315,t316⟩,A80,H⟩:=H
      replace H:((foretellref_Ops.f k1 l0 x9_1 t315).bind fun t317=>(if x6_1.length < 5864062014805 then (foretellref_SplitOf.l0 k1 l0 (x6_1 ++ [t317]) t313 t315 (wrap64 (x10_1 + 1))) else (none))) = some (r1,r2):=H
      have A8:=zA A80
      clear A80
      replace H:=zb.mp H
      obtain ⟨t317,A90,H⟩:=H
      replace H:(if x6_1.length < 5864062014805 then (foretellref_SplitOf.l0 k1 l0 (x6_1 ++ [t317]) t313 t315 (wrap64 (x10_1 + 1))) else (none)) = some (r1,r2):=H
      have A9:=zA A90
      clear A90
      by_cases c10:x6_1.length < 5864062014805
      ·rw [if_pos c10] at H
       have LMc10:=zA c10
       clear c10
       obtain ⟨y320,hy320⟩:∃ y_:List (List (S65)),y_ = (x6_1 ++ [t317]):=⟨_,rfl⟩
       replace H:(foretellref_SplitOf.l0 k1 l0 y320 t313 t315 (wrap64 (x10_1 + 1))) = some (r1,r2):=by first|(rw [hy320];with_reducible exact H)|(have H2_:=(Option.bind_some _ _).symm.trans H;rw [hy320];with_reducible exact H2_)|(have H2_:=(Option.bind_some _ _).symm.trans H;with_reducible exact H2_)|with_reducible exact H|(rw [hy320];exact H)|exact H
       have Ny320:=zA hy320
       clear hy320
       have H':=zA H
       clear H
       go_wp2_with (first|((with_reducible refine zU (f:=91) rfl ?_);refine gL (some 38) Tryd.func91 #[.slice (some ad312) l0.length c0,.int .i64 x9_1] ?_;(with_reducible refine (foretellref_endOf.calls k1 _ _ l0 x9_1 t315 t316 _ (qc HR0) HC0.out A8.out).mono ?_);rintro e w' ⟨rfl,⟨nd,rfl⟩⟩;refine ⟨_,rfl,?_⟩)|((with_reducible refine zU (f:=113) rfl ?_);refine gL (some 44) Tryd.func113 #[.slice (some ad312) l0.length c0,.int .i64 x9_1,.int .i64 t315] ?_;(with_reducible refine (foretellref_Ops.calls k1 _ _ l0 x9_1 t315 t317 _ (qu (zT HR0.out qb)) HC0.out A9.out).mono ?_);rintro e w11 ⟨v318,rfl,ho0,hb⟩;refine ⟨_,rfl,?_⟩;replace HO_6:=zA (Kd.S_elder' (qS HO_6) (Kd.R_base ho0) hb);have HO319:=zA (Kd.R_lower ho0 qs);replace HB:=zA (zH qb hb);clear ho0 hb;obtain ⟨Ao13,co13,eo13⟩:=Kd.R_slice HO319.out;subst eo13)|((with_reducible refine gate_builtin (b:=.append) (xs:=#[.tmp 45,.tmp 47]) rfl ?_);at_builtin;refine Kd.S_append (Kd.slice 65 k65) (w0:=w) w.heap.size rfl (.tmp 45) (.tmp 47) 45 22 (.slice none 0 0) 24 rfl Tryd.underlying45 info22 rfl (by decide) (by omega) u6 x6_1 t317 [.slice Ao13 t317.length co13] (fun _=>True) (fun k_=>some k_ = (.slice Ao13 t317.length co13:Value).ownBlock) rfl rfl (Kd.M_row (Kd.R_mono (Kd.R_tight rfl (Kd.R_mono (ok':=fun k_=>((fun _=>True)) k_∧some k_ ≠ (u6:Value).ownBlock) (Kd.R_apart' (HO319.out) (Kd.S_typed HO_6.out) (by decide)) (fun k_ hk=>⟨trivial,hk.2⟩))) (fun _ h_=>h_))) (fun k_ hk_=>((Kd.R_mono (ok':=fun k_=>((fun _=>True)) k_∧some k_ ≠ (u6:Value).ownBlock) (Kd.R_apart' (HO319.out) (Kd.S_typed HO_6.out) (by decide)) (fun k_ hk=>⟨trivial,hk.2⟩))).1 k_ hk_.symm) (fun _ _=>trivial) ?aO qb qs (qo LMc10) ?_;(case aO=>exact (by (with_reducible repeat (first|apply Kd.S_alloc|apply Kd.S_drewN|apply Kd.S_drew));exact Kd.S_mono HO_6.out (fun k_ hk=>⟨trivial,fun e_=>hk.2 e_⟩)));intro v321 w12 ho hb hg hat;rw [← Ny320.out] at ho;replace HB:=zA (hb);have HO322:=zA (ho);clear HO_6 HO319;clear ho hb hg hat))
       go_roundg k1
       case measure=>have:=HK1.out;omega
       case rel=>exact ⟨(y320),(t315),(wrap64 (x10_1 + 1)),qr,qr,H',⟨qo HK1⟩,⟨qS HO322⟩,⟨qb⟩⟩
      ·rw [if_neg c10] at H
       exact absurd H (by simp)
     ·simp only [Option.some.injEq,Prod.mk.injEq] at H
      obtain ⟨rfl,rfl⟩:=H
      go_wp2
      go_ret2
      exact ⟨_,qe,qS HO_6,qb⟩
  ·rw [if_neg c4] at H
   exact absurd H (by simp)
 ·rw [if_neg c3] at H
  have c3b0:(t309 == 0) = false:=beq_eq_false_iff_ne.mpr c3
  have c3b1:(t309 != 0) = true:=bne_iff_ne.mpr c3
  simp only [Option.some.injEq,Prod.mk.injEq] at H
  obtain ⟨rfl,rfl⟩:=H
  go_enter Tryd.func108,Tryd.ntmps108
  go_wp2_with (first|((with_reducible refine zU (f:=74) rfl ?_);refine gL (some 16) Tryd.func74 #[.slice A0 l0.length c0] ?_;(with_reducible refine (foretellref_EndsOf.calls k _ _ l0 t308 t309 _ (qu HR0.out) HC0.out A2.out).mono ?_);rintro e w14 ⟨v310,rfl,ho0,hb⟩;refine ⟨_,rfl,?_⟩;have HO311:=zA (Kd.R_lower ho0 qs);replace HB:=zA (zH qb hb);clear ho0 hb))
  go_ret2
  exact ⟨_,qe,by first|exact Kd.S_nil _ _ _ _ _|exact Kd.N_nil _ _ _ _ _|exact Kd.V_nil _ _ _ _ _|exact Kd.Q_nil _ _ _ _ _|exact Kd.R_nil _ _ _ _ _,qb⟩
end Go.Proofs.YthffpjkkmkjplaaDoor.S
namespace Go.Proofs.YthffpjkkmkjplaaDoor.S
open Go.Proofs.YthffpjkkmkjplaaDoor.Al
open Option renaming bind_eq_some_iff → zb
open Go.Proofs.YthffpjkkmkjplaaDoorW.PrintWords renaming gate_callee → zU
open Go.Proofs.YthffpjkkmkjplaaDoor.Sq
open Go.RowKit Go.Proofs.YthffpjkkmkjplaaDoorW.PrintWords Go.Proofs.YthffpjkkmkjplaaDoorW.PrintLast Go.Proofs.YthffpjkkmkjplaaDoorW.PrintMore
attribute [local go_sem] max2_int min2_int max_two min_two max_three min_three max_four min_four
set_option linter.unusedVariables false
set_option linter.unusedSimpArgs false
def foretellref_takesTruth.f (a0:Int):Option (Bool):=(foretellref_In.f a0 8 10).bind fun t323=>(some t323)
set_option maxHeartbeats 8000000 in
set_option maxRecDepth 100000 in
theorem foretellref_takesTruth.calls (a0:Int) (r:Bool) (w:World) (h:foretellref_takesTruth.f a0 = some r) :
  Calls Tryd.prog 112 #[.int .i64 a0] w fun e w'=>e = .returned (.bool r)∧Drawn0 w w':=by
 have H:((foretellref_In.f a0 8 10).bind fun t323=>(some t323)) = some r:=h
 clear h
 replace H:=zb.mp H
 obtain ⟨t323,A20,H⟩:=H
 replace H:(some t323) = some r:=H
 have A2:=zA A20
 clear A20
 obtain rfl:=Option.some.inj H
 go_enter Tryd.func112,Tryd.ntmps112
 go_wp2_with (first|((with_reducible refine zU (f:=50) rfl ?_);refine gL (some 4) Tryd.func50 #[.int .i64 a0,.int .i64 8,.int .i64 10] ?_;(with_reducible refine (foretellref_In.calls a0 8 10 t323 _ A2.out).mono ?_);rintro e w' ⟨rfl,⟨nd,rfl⟩⟩;refine ⟨_,rfl,?_⟩))
 go_ret
 exact ⟨qr,qt⟩
end Go.Proofs.YthffpjkkmkjplaaDoor.S
