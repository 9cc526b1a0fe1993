-- Cut by a program of this session (wip/prune.py) from a longer text: declarations that the law does not need are left out.
import Derived.Test.YtkpddelnkjjflaaDoorKStepLettersMx0
import Derived.Test.YtkpddelnkjjflaaDoorKStepLettersMx1
import Derived.Test.YtkpddelnkjjflaaDoorKStepLettersMx3
import Derived.Test.YtkpddelnkjjflaaDoorKStepLettersMx4
namespace Go.Proofs.YtkpddelnkjjflaaDoor.M
open Go.Proofs.YtkpddelnkjjflaaDoor.Al
open Go.World renaming block_lt_of_cell? → zB
open Option renaming bind_eq_some_iff → zb
open List renaming map_toArray → zx, map_cons → zy, map_nil → zz, length_drop → zd, length_take → zt
open Go.Proofs.YtkpddelnkjjflaaDoorW.PrintWords renaming pw_below_drewN → zC, below_alloc → zD, below_drew1 → zE, below_set → zF, below_size → zG, below_step → zH, blk_cell → zI, blk_frozen → zJ, blk_alloc → zK, blk_drewN → zL, blk_drew → zM, blk_below → zN, Kd.C_below → zT, gate_callee → zU, gate_dst → zV, box_event → zW
open Go.RowKit Go.Proofs.YtkpddelnkjjflaaDoorW.PrintWords Go.Proofs.YtkpddelnkjjflaaDoorW.PrintLast Go.Proofs.YtkpddelnkjjflaaDoorW.PrintMore
attribute [local go_sem] max2_int min2_int max_two min_two max_three min_three max_four min_four
set_option linter.unusedVariables false
set_option linter.unusedSimpArgs false
def foretelllaw_terms.l0:Nat → List (List (S94)) → List (List (S94)) → Int → Option ((List (List (S94))))
 | 0,_,_,_=>none
 | k + 1,x0,x3,x4=>if x4 < (x0.length:Int) then (if 0 ≤ x4 then ((foretelllaw_ops.f (rd_L4 x0 x4)).bind fun t129=>(if x3.length < 5864062014805 then (foretelllaw_terms.l0 k x0 (x3 ++ [t129]) (wrap64 (x4 + 1))) else (none))) else (none)) else (some x3)
def foretelllaw_terms.f (k:Nat) (l0:List (List (S94))):Option ((List (List (S94)))):=foretelllaw_terms.l0 k l0 ([]:List (List (S94))) 0
theorem foretelllaw_terms.mono_l:∀ k,(∀ y0 y1 y2,LeO (foretelllaw_terms.l0 k y0 y1 y2) (foretelllaw_terms.l0 (k + 1) y0 y1 y2))
 | 0=>fun _ _ _ r h=>by simp [foretelllaw_terms.l0] at h
 | k + 1=>by
  have ih0:=foretelllaw_terms.mono_l k
  ·intro y0 y1 y2
   unfold foretelllaw_terms.l0
   repeat' first
   | (with_reducible exact ih0 _ _ _)
   | (with_reducible exact LeO.refl _)
   | (with_reducible exact LeO.none _)
   | (with_reducible refine LeO.ite ?_ ?_)
   | (with_reducible refine LeO.bind ?_ (fun _=>?_))
   | exact ih0 _ _ _
   | exact LeO.none _
   | refine LeO.ite ?_ ?_
   | refine LeO.bind ?_ (fun _=>?_)
theorem foretelllaw_terms.mono:∀ a0 k,LeO (foretelllaw_terms.f k a0) (foretelllaw_terms.f (k + 1) a0):=by
 intro a0 k
 have ih0:=foretelllaw_terms.mono_l k
 unfold foretelllaw_terms.f
 repeat' first
   | (with_reducible exact ih0 _ _ _)
   | (with_reducible exact LeO.refl _)
   | (with_reducible exact LeO.none _)
   | (with_reducible refine LeO.ite ?_ ?_)
   | (with_reducible refine LeO.bind ?_ (fun _=>?_))
   | exact ih0 _ _ _
   | exact LeO.none _
   | refine LeO.ite ?_ ?_
   | refine LeO.bind ?_ (fun _=>?_)
set_option maxHeartbeats 8000000 in
set_option maxRecDepth 100000 in
theorem foretelllaw_terms.calls (k:Nat) (A0:Option Addr) (c0:Nat) (l0:List (List (S94))) (r:List (List (S94))) (w:World) (hr0:Kd.C (Kd.slice 94 k94) w A0 l0.length l0) (hc0:l0.length ≤ c0) (h:foretelllaw_terms.f k l0 = some r) :
  Calls Tryd.prog 22 #[.slice A0 l0.length c0] w fun e w'=>∃ v0_:Value,e = .returned (v0_)∧Kd.S (Kd.slice 94 k94) 45 w' w.heap.size (fun _=>True) v0_ r∧Below w.heap.size w w':=by
 have HR0:=zA hr0
 have HC0:=zA hc0
 clear hr0 hc0
 have HB:=zA (Below.refl w.heap.size w)
 have H:(foretelllaw_terms.l0 k l0 ([]:List (List (S94))) 0) = some r:=h
 clear h
 have H':=zA H
 clear H
 go_enter Tryd.func22,Tryd.ntmps22
 go_wp2
 go_loopg [3,4] k (fun kq v3 v4 w'=>∃ (x3_1:List (List (S94))) (x4_1:Int),v4 = .int .i64 x4_1∧Aside0 (foretelllaw_terms.l0 kq l0 x3_1 x4_1 = some r)∧Aside0 (kq ≤ k)∧Aside0 (Kd.S (Kd.slice 94 k94) 45 w' w.heap.size (fun _=>True) v3 x3_1)∧Aside0 (Below w.heap.size w w'))
 case atStart=>exact ⟨(([]:List (List (S94)))),(0),(by first|rfl|(simp;done)|(simp [*];done)),H',⟨Nat.le_refl _⟩,⟨by first|exact Kd.S_nil _ _ _ _ _|exact Kd.N_nil _ _ _ _ _|exact Kd.V_nil _ _ _ _ _|exact Kd.Q_nil _ _ _ _ _|exact Kd.R_nil _ _ _ _ _⟩,⟨by repeat (first|(with_reducible first|exact HB.out|apply zD|apply zC|apply zE)|exact HB.out)⟩⟩
 case round =>
  clear H'
  obtain ⟨x3_1,x4_1,rfl,HA,HK1,HO_3,HB⟩:=hrel
  cases gk with
  | zero=>exact absurd HA.out (by simp [foretelllaw_terms.l0])
  | succ k1 =>
   have H:=HA.out
   clear HA
   simp only [foretelllaw_terms.l0] at H
   by_cases c2:x4_1 < (l0.length:Int)
   ·rw [if_pos c2] at H
    have c2b0:decide (x4_1 < (l0.length:Int)) = true:=zQ c2
    clear c2
    by_cases c3:0 ≤ x4_1
    ·rw [if_pos c3] at H
     have c3b0:decide (0 ≤ x4_1) = true:=zQ c3
     clear c3
     replace H:=zb.mp H
     obtain ⟨t129,A40,H⟩:=H
     replace H:(if x3_1.length < 5864062014805 then (foretelllaw_terms.l0 k1 l0 (x3_1 ++ [t129]) (wrap64 (x4_1 + 1))) else (none)) = some r:=H
     have A4:=zA A40
     clear A40
     by_cases c5:x3_1.length < 5864062014805
     ·rw [if_pos c5] at H
      have LMc5:=zA c5
      clear c5
      obtain ⟨y132,hy132⟩:∃ y_:List (List (S94)),y_ = (x3_1 ++ [t129]):=⟨_,rfl⟩
      replace H:(foretelllaw_terms.l0 k1 l0 y132 (wrap64 (x4_1 + 1))) = some r:=by first|(rw [hy132];with_reducible exact H)|(have H2_:=(Option.bind_some _ _).symm.trans H;rw [hy132];with_reducible exact H2_)|(have H2_:=(Option.bind_some _ _).symm.trans H;with_reducible exact H2_)|with_reducible exact H|(rw [hy132];exact H)|exact H
      have Ny132:=zA hy132
      clear hy132
      have H':=zA H
      clear H
      have p128:0 ≤ (x4_1:Int):=zP (by assumption)
      have q128:x4_1 < (l0.length:Int):=zP (by assumption)
      obtain ⟨ad128,A128_0,c128_0,e128,hx128_0,hl128_0,hi128_0⟩:=at_L4 HR0.out x4_1 p128 q128
      cases e128
      replace hx128_0:=(HB.out.cell (zB w _ hx128_0)).trans hx128_0
      have HR128_0:=zA hi128_0
      have HC128_0:=zA hl128_0
      clear hi128_0 hl128_0
      replace p128:=eq_true p128
      replace q128:=eq_true q128
      go_wp2_with (first|((with_reducible refine zU (f:=47) rfl ?_);refine goesL_ (some 16) rfl rfl Tryd.func47 (by kernel_rfl) rfl #[.slice A128_0 (rd_L4 l0 x4_1).length c128_0] rfl (by (try simp only [zx,zy,zz]);first|done|rfl|(simp only [zd,zt];rfl)) ?_;(with_reducible refine (foretelllaw_ops.calls _ _ (rd_L4 l0 x4_1) t129 _ ?side1 ?side2 A4.out).mono ?_);(case side1=>repeat (first|exact (zT HR128_0.out HB.out)|(with_reducible refine Kd.C_alloc ?_ _)|(with_reducible refine Kd.C_drewN ?_ _)|(with_reducible refine Kd.C_drew ?_)));(case side2=>exact HC128_0.out);rintro e w6 ⟨v130,rfl,ho0,hb⟩;refine ⟨_,rfl,?_⟩;have n0_:=zA (Kd.S_elder' (by (with_reducible repeat (first|apply Kd.S_alloc|apply Kd.S_drewN|apply Kd.S_drew));exact HO_3.out) (Kd.R_base ho0) hb);have n1_:=zA (Kd.R_lower ho0 (zG (by repeat (first|(with_reducible first|exact HB.out|apply zD|apply zC|apply zE)|exact HB.out))));have n2_:=zA (zH (by repeat (first|(with_reducible first|exact HB.out|apply zD|apply zC|apply zE)|exact HB.out)) hb);clear HO_3;clear HB;have HO_3:=n0_;have HO131:=n1_;have HB:=n2_;clear n0_ n1_ n2_;(try clear hb);(try clear hb2);(try clear hk);(try clear hi);(try clear ho0);obtain ⟨Ao8,co8,eo8⟩:=Kd.R_slice HO131.out;subst eo8)|((with_reducible refine gate_builtin (b:=.append) (xs:=#[.tmp 11,.tmp 17]) rfl ?_);at_builtin;refine Kd.S_append (Kd.slice 94 k94) (w0:=w) w.heap.size rfl (.tmp 11) (.tmp 17) 33 45 (.slice none 0 0) 24 rfl Tryd.underlying33 info45 rfl (by decide) (by omega) u3 x3_1 t129 [.slice Ao8 t129.length co8] (fun _=>True) (fun k_=>some k_ = (.slice Ao8 t129.length co8:Value).ownBlock) rfl rfl ?aP (fun k_ hk_=>((Kd.R_mono (ok':=fun k_=>((fun _=>True)) k_∧some k_ ≠ (u3:Value).ownBlock) (Kd.R_apart' (HO131.out) (Kd.S_typed HO_3.out) (by decide)) (fun k_ hk=>⟨trivial,hk.2⟩))).1 k_ hk_.symm) ?aF ?aO ?aB ?aS ?aL ?_;(case aP=>exact Kd.M_row (Kd.R_mono (Kd.R_tight rfl (Kd.R_mono (ok':=fun k_=>((fun _=>True)) k_∧some k_ ≠ (u3:Value).ownBlock) (Kd.R_apart' (HO131.out) (Kd.S_typed HO_3.out) (by decide)) (fun k_ hk=>⟨trivial,hk.2⟩))) (fun _ h_=>h_)));(case aB=>exact (by repeat (first|(with_reducible first|exact HB.out|apply zD|apply zC|apply zE)|exact HB.out)));(case aF=>exact (fun _ _=>trivial));(case aO=>exact (by (with_reducible repeat (first|apply Kd.S_alloc|apply Kd.S_drewN|apply Kd.S_drew));exact Kd.S_mono HO_3.out (fun k_ hk=>⟨trivial,fun e_=>hk.2 e_⟩)));(case aS=>exact (zG (by repeat (first|(with_reducible first|exact HB.out|apply zD|apply zC|apply zE)|exact HB.out))));(case aL=>have:=LMc5.out;omega);intro v133 w7 ho hb hg hat;rw [← Ny132.out] at ho;have n0_:=zA (hb);have n1_:=zA (ho);clear HB;clear HO_3;clear HO131;have HB:=n0_;have HO134:=n1_;clear n0_ n1_;clear ho hb hg hat))
      go_roundg k1
      case measure=>have:=HK1.out;omega
      case rel=>exact ⟨(y132),(wrap64 (x4_1 + 1)),(by first|rfl|(simp;done)|(simp [*];done)),H',⟨by have:=HK1.out;omega⟩,⟨by (with_reducible repeat (first|apply Kd.S_alloc|apply Kd.S_drewN|apply Kd.S_drew));exact HO134.out⟩,⟨by repeat (first|(with_reducible first|exact HB.out|apply zD|apply zC|apply zE)|exact HB.out)⟩⟩
     ·rw [if_neg c5] at H
      exact absurd H (by simp)
    ·rw [if_neg c3] at H
     exact absurd H (by simp)
   ·rw [if_neg c2] at H
    have c2b0:decide (x4_1 < (l0.length:Int)) = false:=zR c2
    clear c2
    obtain rfl:=Option.some.inj H
    go_wp2
    go_ret
    exact ⟨_,by first|rfl|(simp [errW_none,errW_some] <;> rfl)|(simp [*,errW_none,errW_some] <;> rfl),by (with_reducible repeat (first|apply Kd.S_alloc|apply Kd.S_drewN|apply Kd.S_drew));exact HO_3.out,by repeat (first|(with_reducible first|exact HB.out|apply zD|apply zC|apply zE)|exact HB.out)⟩
def model_Props.l0:Nat → List (List (S94)) → Int → Int → List (S74) → List (S68) → Option (Int)
 | 0,_,_,_,_,_=>none
 | k + 1,x17,x18,x19,x169000,x169001=>if x19 < x18 then (if 0 ≤ x19 then (if x19 < (x17.length:Int) then ((model_kind.f k (rd_L4 x17 x19) (x169000.length:Int) true).bind fun t171=>(if t171 = 0 then (model_Props.l0 k x17 x18 (wrap64 (x19 + 1)) x169000 x169001) else (some t171))) else (none)) else (none)) else (some 0)
def model_Props.f (k:Nat) (l0_0:List (S74)) (l0_1:List (S68)) (l1:List (List (S94))):Option (Int):=(model_Check.f k l0_0 l0_1).bind fun t169=>(if t169 = 0 then (if (l1.length:Int) > 6 then (some 1) else (model_Props.l0 k l1 (l1.length:Int) 0 l0_0 l0_1)) else (some t169))
theorem model_Props.mono_l:∀ k,(∀ y0 y1 y2 y3 y4,LeO (model_Props.l0 k y0 y1 y2 y3 y4) (model_Props.l0 (k + 1) y0 y1 y2 y3 y4))
 | 0=>fun _ _ _ _ _ r h=>by simp [model_Props.l0] at h
 | k + 1=>by
  have ih0:=model_Props.mono_l k
  ·intro y0 y1 y2 y3 y4
   unfold model_Props.l0
   repeat' first
   | (with_reducible exact ih0 _ _ _ _ _)
   | (with_reducible exact model_Check.mono _ _ _)
   | (with_reducible exact model_kind.mono _ _ _ _)
   | (with_reducible exact LeO.refl _)
   | (with_reducible exact LeO.none _)
   | (with_reducible refine LeO.ite ?_ ?_)
   | (with_reducible refine LeO.bind ?_ (fun _=>?_))
   | exact ih0 _ _ _ _ _
   | exact model_Check.mono _ _ _
   | exact model_kind.mono _ _ _ _
   | exact LeO.none _
   | refine LeO.ite ?_ ?_
   | refine LeO.bind ?_ (fun _=>?_)
theorem model_Props.mono:∀ a0 a1 a2 k,LeO (model_Props.f k a0 a1 a2) (model_Props.f (k + 1) a0 a1 a2):=by
 intro a0 a1 a2 k
 have ih0:=model_Props.mono_l k
 unfold model_Props.f
 repeat' first
   | (with_reducible exact ih0 _ _ _ _ _)
   | (with_reducible exact model_Check.mono _ _ _)
   | (with_reducible exact model_kind.mono _ _ _ _)
   | (with_reducible exact LeO.refl _)
   | (with_reducible exact LeO.none _)
   | (with_reducible refine LeO.ite ?_ ?_)
   | (with_reducible refine LeO.bind ?_ (fun _=>?_))
   | exact ih0 _ _ _ _ _
   | exact model_Check.mono _ _ _
   | exact model_kind.mono _ _ _ _
   | exact LeO.none _
   | refine LeO.ite ?_ ?_
   | refine LeO.bind ?_ (fun _=>?_)
set_option maxHeartbeats 8000000 in
set_option maxRecDepth 100000 in
theorem model_Props.calls (k:Nat) (A0_0:Option Addr) (c0_0:Nat) (l0_0:List (S74)) (A0_1:Option Addr) (c0_1:Nat) (l0_1:List (S68)) (A1:Option Addr) (c1:Nat) (l1:List (List (S94))) (r:Int) (w:World) (hr0_0:Kd.C k74 w A0_0 l0_0.length l0_0) (hc0_0:l0_0.length ≤ c0_0) (hr0_1:Kd.C k68 w A0_1 l0_1.length l0_1) (hc0_1:l0_1.length ≤ c0_1) (hr1:Kd.C (Kd.slice 94 k94) w A1 l1.length l1) (hc1:l1.length ≤ c1) (hL:LaidG w) (h:model_Props.f k l0_0 l0_1 l1 = some r) :
  Calls Tryd.prog 21 #[.agg #[.slice A0_0 l0_0.length c0_0,.slice A0_1 l0_1.length c0_1],.slice A1 l1.length c1] w fun e w'=>e = .returned (.int .i64 r)∧Below w.heap.size w w':=by
 have HLd:=zA hL
 clear hL
 have hu25:=Tryd.underlying25
 have HR0_0:=zA hr0_0
 have HC0_0:=zA hc0_0
 clear hr0_0 hc0_0
 have HR0_1:=zA hr0_1
 have HC0_1:=zA hc0_1
 clear hr0_1 hc0_1
 have HR1:=zA hr1
 have HC1:=zA hc1
 clear hr1 hc1
 have HB:=zA (Below.refl w.heap.size w)
 have H:((model_Check.f k l0_0 l0_1).bind fun t169=>(if t169 = 0 then (if (l1.length:Int) > 6 then (some 1) else (model_Props.l0 k l1 (l1.length:Int) 0 l0_0 l0_1)) else (some t169))) = some r:=h
 clear h
 replace H:=zb.mp H
 obtain ⟨t169,A30,H⟩:=H
 replace H:(if t169 = 0 then (if (l1.length:Int) > 6 then (some 1) else (model_Props.l0 k l1 (l1.length:Int) 0 l0_0 l0_1)) else (some t169)) = some r:=H
 have A3:=zA A30
 clear A30
 by_cases c4:t169 = 0
 ·rw [if_pos c4] at H
  have c4b0:(t169 == 0) = true:=beq_iff_eq.mpr c4
  have c4b1:(t169 != 0) = false:=bne_eq_false_iff_eq.mpr c4
  clear c4
  by_cases c5:(l1.length:Int) > 6
  ·rw [if_pos c5] at H
   have c5b0:decide (6 < (l1.length:Int)) = true:=zQ c5
   have c5b1:decide (6 < l1.length) = true:=zQ (by omega)
   clear c5
   obtain rfl:=Option.some.inj H
   go_enter Tryd.func21,Tryd.ntmps21
   go_wp2_with (first|((with_reducible refine zV (N:=2) rfl ?_);refine zW ?hg (N:=2) ?hd (cs:=#[.slice A0_0 l0_0.length c0_0,.slice A0_1 l0_1.length c0_1]) (t:=25) ?hr ?_;(case hd=>rfl);(case hg=>rfl);(case hr=>first|(go_simp;done)|(go_simp;rfl));intro gb168 hg w6 hbox hb;have n0_:=zA (zH (by repeat (first|(with_reducible first|exact HB.out|apply zD|apply zC|apply zE)|exact HB.out)) hb);have n1_:=zA (hbox);have n2_:=zA ((by rw [hg];exact (zG (by repeat (first|(with_reducible first|exact HB.out|apply zD|apply zC|apply zE)|exact HB.out))):w.heap.size ≤ gb168));have n3_:=zA ((by rw [hg];exact (zG (by repeat (first|(with_reducible first|exact HB.out|apply zD|apply zC|apply zE)|exact HB.out))):w.heap.size ≤ gb168));clear HB;have HB:=n0_;have BK168:=n1_;have GW168:=n2_;have GE168:=n3_;clear n0_ n1_ n2_ n3_;clear hb hbox hg;have hcz7_0:w6.cell? ⟨gb168,0,none⟩ = some (.slice A0_0 l0_0.length c0_0):=(zI BK168.out 0).trans rfl;have hcz7_1:w6.cell? ⟨gb168,1,none⟩ = some (.slice A0_1 l0_1.length c0_1):=(zI BK168.out 1).trans rfl;have hfz7_0:=zJ BK168.out 0;have hfz7_1:=zJ BK168.out 1)|((with_reducible refine zU (f:=16) rfl ?_);refine goesL_ (some 10) rfl rfl Tryd.func16 (by kernel_rfl) rfl #[.agg #[.slice A0_0 l0_0.length c0_0,.slice A0_1 l0_1.length c0_1]] rfl (by (try simp only [zx,zy,zz]);first|done|rfl|(simp only [zd,zt];rfl)) ?_;(with_reducible refine (model_Check.calls k _ _ l0_0 _ _ l0_1 t169 _ ?side1 ?side2 ?side3 ?side4 ?side5 A3.out).mono ?_);(case side1=>repeat (first|exact (zT HR0_0.out HB.out)|(with_reducible refine Kd.C_alloc ?_ _)|(with_reducible refine Kd.C_drewN ?_ _)|(with_reducible refine Kd.C_drew ?_)));(case side2=>exact HC0_0.out);(case side3=>repeat (first|exact (zT HR0_1.out HB.out)|(with_reducible refine Kd.C_alloc ?_ _)|(with_reducible refine Kd.C_drewN ?_ _)|(with_reducible refine Kd.C_drew ?_)));(case side4=>exact HC0_1.out);(case side5=>first|exact LaidG.below HLd.out (by repeat (first|(with_reducible first|exact HB.out|apply zD|apply zC|apply zE|refine zF ?_ GE168.out)|exact HB.out))|(refine LaidG.below HLd.out ?_;repeat (with_reducible first|exact HB.out|exact Below.refl _ _|apply zD|apply zC|apply zE);done));rintro e w8 ⟨rfl,hb⟩;refine ⟨_,rfl,?_⟩;have n0_:=zA (zN (g:=gb168) (o:=.cells #[.slice A0_0 l0_0.length c0_0,.slice A0_1 l0_1.length c0_1] 25 (0,0)) (by (with_reducible repeat (first|refine zL ?_ _|refine zM ?_|refine zK ?_ _));exact BK168.out) hb);have n1_:=zA (zH (by repeat (first|(with_reducible first|exact HB.out|apply zD|apply zC|apply zE|refine zF ?_ GE168.out)|exact HB.out)) hb);clear BK168;clear HB;have BK168:=n0_;have HB:=n1_;clear n0_ n1_;(try clear hb);(try clear hb2);(try clear hk);(try clear hi)))
   go_ret
   exact ⟨by first|rfl|(simp [errW_none,errW_some] <;> rfl)|(simp [*,errW_none,errW_some] <;> rfl),by repeat (first|(with_reducible first|exact HB.out|apply zD|apply zC|apply zE|refine zF ?_ GE168.out)|exact HB.out)⟩
  ·rw [if_neg c5] at H
   have c5b0:decide (6 < (l1.length:Int)) = false:=zR c5
   have c5b1:decide (6 < l1.length) = false:=zR (by omega)
   clear c5
   have H':=zA H
   clear H
   go_enter Tryd.func21,Tryd.ntmps21
   go_wp2_with (first|((with_reducible refine zV (N:=2) rfl ?_);refine zW ?hg (N:=2) ?hd (cs:=#[.slice A0_0 l0_0.length c0_0,.slice A0_1 l0_1.length c0_1]) (t:=25) ?hr ?_;(case hd=>rfl);(case hg=>rfl);(case hr=>first|(go_simp;done)|(go_simp;rfl));intro gb168 hg w9 hbox hb;have n0_:=zA (zH (by repeat (first|(with_reducible first|exact HB.out|apply zD|apply zC|apply zE)|exact HB.out)) hb);have n1_:=zA (hbox);have n2_:=zA ((by rw [hg];exact (zG (by repeat (first|(with_reducible first|exact HB.out|apply zD|apply zC|apply zE)|exact HB.out))):w.heap.size ≤ gb168));have n3_:=zA ((by rw [hg];exact (zG (by repeat (first|(with_reducible first|exact HB.out|apply zD|apply zC|apply zE)|exact HB.out))):w.heap.size ≤ gb168));clear HB;have HB:=n0_;have BK168:=n1_;have GW168:=n2_;have GE168:=n3_;clear n0_ n1_ n2_ n3_;clear hb hbox hg;have hcz10_0:w9.cell? ⟨gb168,0,none⟩ = some (.slice A0_0 l0_0.length c0_0):=(zI BK168.out 0).trans rfl;have hcz10_1:w9.cell? ⟨gb168,1,none⟩ = some (.slice A0_1 l0_1.length c0_1):=(zI BK168.out 1).trans rfl;have hfz10_0:=zJ BK168.out 0;have hfz10_1:=zJ BK168.out 1)|((with_reducible refine zU (f:=16) rfl ?_);refine goesL_ (some 10) rfl rfl Tryd.func16 (by kernel_rfl) rfl #[.agg #[.slice A0_0 l0_0.length c0_0,.slice A0_1 l0_1.length c0_1]] rfl (by (try simp only [zx,zy,zz]);first|done|rfl|(simp only [zd,zt];rfl)) ?_;(with_reducible refine (model_Check.calls k _ _ l0_0 _ _ l0_1 t169 _ ?side1 ?side2 ?side3 ?side4 ?side5 A3.out).mono ?_);(case side1=>repeat (first|exact (zT HR0_0.out HB.out)|(with_reducible refine Kd.C_alloc ?_ _)|(with_reducible refine Kd.C_drewN ?_ _)|(with_reducible refine Kd.C_drew ?_)));(case side2=>exact HC0_0.out);(case side3=>repeat (first|exact (zT HR0_1.out HB.out)|(with_reducible refine Kd.C_alloc ?_ _)|(with_reducible refine Kd.C_drewN ?_ _)|(with_reducible refine Kd.C_drew ?_)));(case side4=>exact HC0_1.out);(case side5=>first|exact LaidG.below HLd.out (by repeat (first|(with_reducible first|exact HB.out|apply zD|apply zC|apply zE|refine zF ?_ GE168.out)|exact HB.out))|(refine LaidG.below HLd.out ?_;repeat (with_reducible first|exact HB.out|exact Below.refl _ _|apply zD|apply zC|apply zE);done));rintro e w11 ⟨rfl,hb⟩;refine ⟨_,rfl,?_⟩;have n0_:=zA (zN (g:=gb168) (o:=.cells #[.slice A0_0 l0_0.length c0_0,.slice A0_1 l0_1.length c0_1] 25 (0,0)) (by (with_reducible repeat (first|refine zL ?_ _|refine zM ?_|refine zK ?_ _));exact BK168.out) hb);have n1_:=zA (zH (by repeat (first|(with_reducible first|exact HB.out|apply zD|apply zC|apply zE|refine zF ?_ GE168.out)|exact HB.out)) hb);clear BK168;clear HB;have BK168:=n0_;have HB:=n1_;clear n0_ n1_;(try clear hb);(try clear hb2);(try clear hk);(try clear hi)))
   go_loopg [19] k (fun kq v19 w'=>∃ (x19_1:Int),v19 = .int .i64 x19_1∧Aside0 (model_Props.l0 kq l1 (l1.length:Int) x19_1 l0_0 l0_1 = some r)∧Aside0 (kq ≤ k)∧Aside0 (w'.heap[gb168]? = some (.cells #[(.slice A0_0 l0_0.length c0_0),(.slice A0_1 l0_1.length c0_1)] 25 (0,0)))∧Aside0 (Below w.heap.size w w'))
   case atStart=>exact ⟨(0),(by first|rfl|(simp;done)|(simp [*];done)),H',⟨Nat.le_refl _⟩,⟨by (with_reducible repeat (first|refine zL ?_ _|refine zM ?_|refine zK ?_ _));exact BK168.out⟩,⟨by repeat (first|(with_reducible first|exact HB.out|apply zD|apply zC|apply zE|refine zF ?_ GE168.out)|exact HB.out)⟩⟩
   case round =>
    clear H'
    try clear c1
    try clear c2
    try clear p2
    try clear c4
    try clear c4b0
    try clear c4b1
    try clear c5
    try clear c5b0
    try clear c5b1
    try clear hcz10_0
    try clear hcz10_1
    try clear hcz7_0
    try clear hcz7_1
    try clear hfz10_0
    try clear hfz10_1
    try clear hfz7_0
    try clear hfz7_1
    obtain ⟨x19_1,rfl,HA,HK1,BK168,HB⟩:=hrel
    cases gk with
    | zero=>exact absurd HA.out (by simp [model_Props.l0])
    | succ k1 =>
     have H:=HA.out
     clear HA
     simp only [model_Props.l0] at H
     by_cases c12:x19_1 < (l1.length:Int)
     ·rw [if_pos c12] at H
      have c12b0:decide (x19_1 < (l1.length:Int)) = true:=zQ c12
      clear c12
      by_cases c13:0 ≤ x19_1
      ·rw [if_pos c13] at H
       have c13b0:decide (0 ≤ x19_1) = true:=zQ c13
       clear c13
       by_cases c14:x19_1 < (l1.length:Int)
       ·rw [if_pos c14] at H
        have c14b0:decide (x19_1 < (l1.length:Int)) = true:=zQ c14
        clear c14
        replace H:=zb.mp H
        obtain ⟨t171,A150,H⟩:=H
        replace H:(if t171 = 0 then (model_Props.l0 k1 l1 (l1.length:Int) (wrap64 (x19_1 + 1)) l0_0 l0_1) else (some t171)) = some r:=H
        have A15:=zA A150
        clear A150
        by_cases c16:t171 = 0
        ·rw [if_pos c16] at H
         have c16b0:(t171 == 0) = true:=beq_iff_eq.mpr c16
         have c16b1:(t171 != 0) = false:=bne_eq_false_iff_eq.mpr c16
         clear c16
         have H':=zA H
         clear H
         have p170:0 ≤ (x19_1:Int):=zP (by assumption)
         have q170:x19_1 < (l1.length:Int):=zP (by assumption)
         obtain ⟨ad170,A170_0,c170_0,e170,hx170_0,hl170_0,hi170_0⟩:=at_L4 HR1.out x19_1 p170 q170
         cases e170
         replace hx170_0:=(HB.out.cell (zB w _ hx170_0)).trans hx170_0
         have HR170_0:=zA hi170_0
         have HC170_0:=zA hl170_0
         clear hi170_0 hl170_0
         replace p170:=eq_true p170
         replace q170:=eq_true q170
         have hcz17_0:wr.cell? ⟨gb168,0,none⟩ = some (.slice A0_0 l0_0.length c0_0):=(zI BK168.out 0).trans rfl
         have hcz17_1:wr.cell? ⟨gb168,1,none⟩ = some (.slice A0_1 l0_1.length c0_1):=(zI BK168.out 1).trans rfl
         have hfz17_0:=zJ BK168.out 0
         have hfz17_1:=zJ BK168.out 1
         go_wp2_with (first|((with_reducible refine zU (f:=54) rfl ?_);refine goesL_ (some 27) rfl rfl Tryd.func54 (by kernel_rfl) rfl #[.slice A170_0 (rd_L4 l1 x19_1).length c170_0,.int .i64 (l0_0.length:Int),.bool true] rfl (by (try simp only [zx,zy,zz]);first|done|rfl|(simp only [zd,zt];rfl)) ?_;(with_reducible refine (model_kind.calls k1 _ _ (rd_L4 l1 x19_1) (l0_0.length:Int) true t171 _ ?side1 ?side2 ?side3 A15.out).mono ?_);(case side1=>repeat (first|exact (zT HR170_0.out HB.out)|(with_reducible refine Kd.C_alloc ?_ _)|(with_reducible refine Kd.C_drewN ?_ _)|(with_reducible refine Kd.C_drew ?_)));(case side2=>exact HC170_0.out);(case side3=>first|exact LaidG.below HLd.out (by repeat (first|(with_reducible first|exact HB.out|apply zD|apply zC|apply zE|refine zF ?_ GE168.out)|exact HB.out))|(refine LaidG.below HLd.out ?_;repeat (with_reducible first|exact HB.out|exact Below.refl _ _|apply zD|apply zC|apply zE);done));rintro e w18 ⟨rfl,hb⟩;refine ⟨_,rfl,?_⟩;have n0_:=zA (zN (g:=gb168) (o:=.cells #[.slice A0_0 l0_0.length c0_0,.slice A0_1 l0_1.length c0_1] 25 (0,0)) (by (with_reducible repeat (first|refine zL ?_ _|refine zM ?_|refine zK ?_ _));exact BK168.out) hb);have n1_:=zA (zH (by repeat (first|(with_reducible first|exact HB.out|apply zD|apply zC|apply zE|refine zF ?_ GE168.out)|exact HB.out)) hb);clear BK168;clear HB;have BK168:=n0_;have HB:=n1_;clear n0_ n1_;(try clear hb);(try clear hb2);(try clear hk);(try clear hi)))
         go_roundg k1
         case measure=>have:=HK1.out;omega
         case rel=>exact ⟨(wrap64 (x19_1 + 1)),(by first|rfl|(simp;done)|(simp [*];done)),H',⟨by have:=HK1.out;omega⟩,⟨by (with_reducible repeat (first|refine zL ?_ _|refine zM ?_|refine zK ?_ _));exact BK168.out⟩,⟨by repeat (first|(with_reducible first|exact HB.out|apply zD|apply zC|apply zE|refine zF ?_ GE168.out)|exact HB.out)⟩⟩
        ·rw [if_neg c16] at H
         have c16b0:(t171 == 0) = false:=beq_eq_false_iff_ne.mpr c16
         have c16b1:(t171 != 0) = true:=bne_iff_ne.mpr c16
         obtain rfl:=Option.some.inj H
         have p170:0 ≤ (x19_1:Int):=zP (by assumption)
         have q170:x19_1 < (l1.length:Int):=zP (by assumption)
         obtain ⟨ad170,A170_0,c170_0,e170,hx170_0,hl170_0,hi170_0⟩:=at_L4 HR1.out x19_1 p170 q170
         cases e170
         replace hx170_0:=(HB.out.cell (zB w _ hx170_0)).trans hx170_0
         have HR170_0:=zA hi170_0
         have HC170_0:=zA hl170_0
         clear hi170_0 hl170_0
         replace p170:=eq_true p170
         replace q170:=eq_true q170
         have hcz19_0:wr.cell? ⟨gb168,0,none⟩ = some (.slice A0_0 l0_0.length c0_0):=(zI BK168.out 0).trans rfl
         have hcz19_1:wr.cell? ⟨gb168,1,none⟩ = some (.slice A0_1 l0_1.length c0_1):=(zI BK168.out 1).trans rfl
         have hfz19_0:=zJ BK168.out 0
         have hfz19_1:=zJ BK168.out 1
         go_wp2_with (first|((with_reducible refine zU (f:=54) rfl ?_);refine goesL_ (some 27) rfl rfl Tryd.func54 (by kernel_rfl) rfl #[.slice A170_0 (rd_L4 l1 x19_1).length c170_0,.int .i64 (l0_0.length:Int),.bool true] rfl (by (try simp only [zx,zy,zz]);first|done|rfl|(simp only [zd,zt];rfl)) ?_;(with_reducible refine (model_kind.calls k1 _ _ (rd_L4 l1 x19_1) (l0_0.length:Int) true t171 _ ?side1 ?side2 ?side3 A15.out).mono ?_);(case side1=>repeat (first|exact (zT HR170_0.out HB.out)|(with_reducible refine Kd.C_alloc ?_ _)|(with_reducible refine Kd.C_drewN ?_ _)|(with_reducible refine Kd.C_drew ?_)));(case side2=>exact HC170_0.out);(case side3=>first|exact LaidG.below HLd.out (by repeat (first|(with_reducible first|exact HB.out|apply zD|apply zC|apply zE|refine zF ?_ GE168.out)|exact HB.out))|(refine LaidG.below HLd.out ?_;repeat (with_reducible first|exact HB.out|exact Below.refl _ _|apply zD|apply zC|apply zE);done));rintro e w20 ⟨rfl,hb⟩;refine ⟨_,rfl,?_⟩;have n0_:=zA (zN (g:=gb168) (o:=.cells #[.slice A0_0 l0_0.length c0_0,.slice A0_1 l0_1.length c0_1] 25 (0,0)) (by (with_reducible repeat (first|refine zL ?_ _|refine zM ?_|refine zK ?_ _));exact BK168.out) hb);have n1_:=zA (zH (by repeat (first|(with_reducible first|exact HB.out|apply zD|apply zC|apply zE|refine zF ?_ GE168.out)|exact HB.out)) hb);clear BK168;clear HB;have BK168:=n0_;have HB:=n1_;clear n0_ n1_;(try clear hb);(try clear hb2);(try clear hk);(try clear hi)))
         go_ret
         exact ⟨by first|rfl|(simp [errW_none,errW_some] <;> rfl)|(simp [*,errW_none,errW_some] <;> rfl),by repeat (first|(with_reducible first|exact HB.out|apply zD|apply zC|apply zE|refine zF ?_ GE168.out)|exact HB.out)⟩
       ·rw [if_neg c14] at H
        exact absurd H (by simp)
      ·rw [if_neg c13] at H
       exact absurd H (by simp)
     ·rw [if_neg c12] at H
      have c12b0:decide (x19_1 < (l1.length:Int)) = false:=zR c12
      clear c12
      obtain rfl:=Option.some.inj H
      go_wp2
      go_ret
      exact ⟨by first|rfl|(simp [errW_none,errW_some] <;> rfl)|(simp [*,errW_none,errW_some] <;> rfl),by repeat (first|(with_reducible first|exact HB.out|apply zD|apply zC|apply zE|refine zF ?_ GE168.out)|exact HB.out)⟩
 ·rw [if_neg c4] at H
  have c4b0:(t169 == 0) = false:=beq_eq_false_iff_ne.mpr c4
  have c4b1:(t169 != 0) = true:=bne_iff_ne.mpr c4
  obtain rfl:=Option.some.inj H
  go_enter Tryd.func21,Tryd.ntmps21
  go_wp2_with (first|((with_reducible refine zV (N:=2) rfl ?_);refine zW ?hg (N:=2) ?hd (cs:=#[.slice A0_0 l0_0.length c0_0,.slice A0_1 l0_1.length c0_1]) (t:=25) ?hr ?_;(case hd=>rfl);(case hg=>rfl);(case hr=>first|(go_simp;done)|(go_simp;rfl));intro gb168 hg w21 hbox hb;have n0_:=zA (zH (by repeat (first|(with_reducible first|exact HB.out|apply zD|apply zC|apply zE)|exact HB.out)) hb);have n1_:=zA (hbox);have n2_:=zA ((by rw [hg];exact (zG (by repeat (first|(with_reducible first|exact HB.out|apply zD|apply zC|apply zE)|exact HB.out))):w.heap.size ≤ gb168));have n3_:=zA ((by rw [hg];exact (zG (by repeat (first|(with_reducible first|exact HB.out|apply zD|apply zC|apply zE)|exact HB.out))):w.heap.size ≤ gb168));clear HB;have HB:=n0_;have BK168:=n1_;have GW168:=n2_;have GE168:=n3_;clear n0_ n1_ n2_ n3_;clear hb hbox hg;have hcz22_0:w21.cell? ⟨gb168,0,none⟩ = some (.slice A0_0 l0_0.length c0_0):=(zI BK168.out 0).trans rfl;have hcz22_1:w21.cell? ⟨gb168,1,none⟩ = some (.slice A0_1 l0_1.length c0_1):=(zI BK168.out 1).trans rfl;have hfz22_0:=zJ BK168.out 0;have hfz22_1:=zJ BK168.out 1)|((with_reducible refine zU (f:=16) rfl ?_);refine goesL_ (some 10) rfl rfl Tryd.func16 (by kernel_rfl) rfl #[.agg #[.slice A0_0 l0_0.length c0_0,.slice A0_1 l0_1.length c0_1]] rfl (by (try simp only [zx,zy,zz]);first|done|rfl|(simp only [zd,zt];rfl)) ?_;(with_reducible refine (model_Check.calls k _ _ l0_0 _ _ l0_1 t169 _ ?side1 ?side2 ?side3 ?side4 ?side5 A3.out).mono ?_);(case side1=>repeat (first|exact (zT HR0_0.out HB.out)|(with_reducible refine Kd.C_alloc ?_ _)|(with_reducible refine Kd.C_drewN ?_ _)|(with_reducible refine Kd.C_drew ?_)));(case side2=>exact HC0_0.out);(case side3=>repeat (first|exact (zT HR0_1.out HB.out)|(with_reducible refine Kd.C_alloc ?_ _)|(with_reducible refine Kd.C_drewN ?_ _)|(with_reducible refine Kd.C_drew ?_)));(case side4=>exact HC0_1.out);(case side5=>first|exact LaidG.below HLd.out (by repeat (first|(with_reducible first|exact HB.out|apply zD|apply zC|apply zE|refine zF ?_ GE168.out)|exact HB.out))|(refine LaidG.below HLd.out ?_;repeat (with_reducible first|exact HB.out|exact Below.refl _ _|apply zD|apply zC|apply zE);done));rintro e w23 ⟨rfl,hb⟩;refine ⟨_,rfl,?_⟩;have n0_:=zA (zN (g:=gb168) (o:=.cells #[.slice A0_0 l0_0.length c0_0,.slice A0_1 l0_1.length c0_1] 25 (0,0)) (by (with_reducible repeat (first|refine zL ?_ _|refine zM ?_|refine zK ?_ _));exact BK168.out) hb);have n1_:=zA (zH (by repeat (first|(with_reducible first|exact HB.out|apply zD|apply zC|apply zE|refine zF ?_ GE168.out)|exact HB.out)) hb);clear BK168;clear HB;have BK168:=n0_;have HB:=n1_;clear n0_ n1_;(try clear hb);(try clear hb2);(try clear hk);(try clear hi)))
  go_ret
  exact ⟨by first|rfl|(simp [errW_none,errW_some] <;> rfl)|(simp [*,errW_none,errW_some] <;> rfl),by repeat (first|(with_reducible first|exact HB.out|apply zD|apply zC|apply zE|refine zF ?_ GE168.out)|exact HB.out)⟩
end Go.Proofs.YtkpddelnkjjflaaDoor.M
