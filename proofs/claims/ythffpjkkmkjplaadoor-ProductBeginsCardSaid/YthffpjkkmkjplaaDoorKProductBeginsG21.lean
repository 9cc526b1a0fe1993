import Derived.Test.YthffpjkkmkjplaaDoorKProductBeginsG9
import Derived.Test.YthffpjkkmkjplaaDoorKProductBeginsG15
import Derived.Test.YthffpjkkmkjplaaDoorKProductBeginsG18
import Derived.Test.YthffpjkkmkjplaaDoorKProductBeginsG20
import Derived.Test.YthffpjkkmkjplaaDoorKProductBeginsG16
namespace Go.Proofs.YthffpjkkmkjplaaDoor.S
open Go.Proofs.YthffpjkkmkjplaaDoor.Al
open Option renaming bind_eq_some_iff → zb
open Go.Proofs.YthffpjkkmkjplaaDoorW.PrintWords renaming below_step → zH, blk_frozen → zJ, gate_callee → zU, gate_dst → zV
open Go.Proofs.YthffpjkkmkjplaaDoor.Sq
open Go.RowKit Go.Proofs.YthffpjkkmkjplaaDoorW.PrintWords Go.Proofs.YthffpjkkmkjplaaDoorW.PrintLast Go.Proofs.YthffpjkkmkjplaaDoorW.PrintMore
attribute [local go_sem] max2_int min2_int max_two min_two max_three min_three max_four min_four
set_option linter.unusedVariables false
set_option linter.unusedSimpArgs false
def product_Begin.l0:Nat → Int → List Bool → List (S73) → Int → Int → List (S86) → List (S93) → List (List (S65)) → List (S65) → Option ((List (S73)) × Int)
 | 0,_,_,_,_,_,_,_,_,_=>none
 | k + 1,x5,x7,x9,x34,x35,x207000,x207001,x207002,x207003=>if x35 < x34 then ((logic_Truths.f x207003 x7 x35).bind fun bt215=>(if 0 < (bt215.1.length:Int) then (if rdOf false bt215.1 0 = true then (product_Begin.l0 k x5 x7 x9 x34 (wrap64 (x35 + 1)) x207000 x207001 x207002 x207003) else (if x9.length < 8796093022208 then (product_Begin.l0 k x5 x7 (x9 ++ [(⟨x5,x35⟩:S73)]) x34 (wrap64 (x35 + 1)) x207000 x207001 x207002 x207003) else (none))) else (none))) else (some (x9,0))
def product_Begin.f (k:Nat) (l0_0:List (S86)) (l0_1:List (S93)) (l0_2:List (List (S65))) (l0_3:List (S65)):Option ((List (S73)) × Int):=(product_Check.f k l0_0 l0_1 l0_2 l0_3).bind fun t207=>(if t207 = 0 then ((model_First.f k l0_0 l0_1).bind fun bt208=>((step_Letter.f k l0_0 l0_1 l0_2 bt208.1).bind fun bt210=>((product_claims.f k l0_0 l0_1 l0_2 l0_3).bind fun t214=>(product_Begin.l0 k bt208.1 bt210.1 ([]:List (S73)) t214 0 l0_0 l0_1 l0_2 l0_3)))) else (some (([]:List (S73)),t207)))
theorem product_Begin.mono_l:∀ k,(∀ y0 y1 y2 y3 y4 y5 y6 y7 y8,LeO (product_Begin.l0 k y0 y1 y2 y3 y4 y5 y6 y7 y8) (product_Begin.l0 (k + 1) y0 y1 y2 y3 y4 y5 y6 y7 y8))
 | 0=>fun _ _ _ _ _ _ _ _ _ r h=>by simp [product_Begin.l0] at h
 | k + 1=>by
  have ih0:=product_Begin.mono_l k
  ·intro y0 y1 y2 y3 y4 y5 y6 y7 y8
   unfold product_Begin.l0
   exact qM (And.intro @model_First.mono (And.intro @product_Check.mono (And.intro @product_claims.mono @step_Letter.mono)))
theorem product_Begin.mono:∀ a0 a1 a2 a3 k,LeO (product_Begin.f k a0 a1 a2 a3) (product_Begin.f (k + 1) a0 a1 a2 a3):=by
 intro a0 a1 a2 a3 k
 have ih0:=product_Begin.mono_l k
 unfold product_Begin.f
 exact qM (And.intro @model_First.mono (And.intro @product_Check.mono (And.intro @product_claims.mono @step_Letter.mono)))
set_option maxHeartbeats 8000000 in
set_option maxRecDepth 100000 in
theorem product_Begin.calls (k:Nat) (A0_0:Option Addr) (c0_0:Nat) (l0_0:List (S86)) (A0_1:Option Addr) (c0_1:Nat) (l0_1:List (S93)) (A0_2:Option Addr) (c0_2:Nat) (l0_2:List (List (S65))) (A0_3:Option Addr) (c0_3:Nat) (l0_3:List (S65)) (r1:List (S73)) (r2:Int) (w:World) (hr0_0:Kd.C k86 w A0_0 l0_0.length l0_0) (hc0_0:l0_0.length ≤ c0_0) (hr0_1:Kd.C k93 w A0_1 l0_1.length l0_1) (hc0_1:l0_1.length ≤ c0_1) (hr0_2:Kd.C (Kd.slice 65 k65) w A0_2 l0_2.length l0_2) (hc0_2:l0_2.length ≤ c0_2) (hr0_3:Kd.C k65 w A0_3 l0_3.length l0_3) (hc0_3:l0_3.length ≤ c0_3) (hL:LaidG w) (h:product_Begin.f k l0_0 l0_1 l0_2 l0_3 = some (r1,r2)) :
  Calls Tryd.prog 18 #[.agg #[.slice A0_0 l0_0.length c0_0,.slice A0_1 l0_1.length c0_1,.slice A0_2 l0_2.length c0_2,.slice A0_3 l0_3.length c0_3]] w fun e w'=>∃ v0_:Value,e = .returned (.tuple #[v0_,.int .i64 r2])∧Kd.R k73 73 w' w.heap.size (fun _=>True) v0_ r1∧Below w.heap.size w w':=by
 have HLd:=zA hL
 clear hL
 have hu47:=Tryd.underlying47
 have hu44:=Tryd.underlying44
 have hu73:=Tryd.underlying73
 have HR0_0:=zA hr0_0
 have HC0_0:=zA hc0_0
 clear hr0_0 hc0_0
 have HR0_1:=zA hr0_1
 have HC0_1:=zA hc0_1
 clear hr0_1 hc0_1
 have HR0_2:=zA hr0_2
 have HC0_2:=zA hc0_2
 clear hr0_2 hc0_2
 have HR0_3:=zA hr0_3
 have HC0_3:=zA hc0_3
 clear hr0_3 hc0_3
 have HB:=zA (Below.refl w.heap.size w)
 have H:((product_Check.f k l0_0 l0_1 l0_2 l0_3).bind fun t207=>(if t207 = 0 then ((model_First.f k l0_0 l0_1).bind fun bt208=>((step_Letter.f k l0_0 l0_1 l0_2 bt208.1).bind fun bt210=>((product_claims.f k l0_0 l0_1 l0_2 l0_3).bind fun t214=>(product_Begin.l0 k bt208.1 bt210.1 ([]:List (S73)) t214 0 l0_0 l0_1 l0_2 l0_3)))) else (some (([]:List (S73)),t207)))) = some (r1,r2):=h
 clear h
 replace H:=zb.mp H
 obtain ⟨t207,A20,H⟩:=H
 replace H:(if t207 = 0 then ((model_First.f k l0_0 l0_1).bind fun bt208=>((step_Letter.f k l0_0 l0_1 l0_2 bt208.1).bind fun bt210=>((product_claims.f k l0_0 l0_1 l0_2 l0_3).bind fun t214=>(product_Begin.l0 k bt208.1 bt210.1 ([]:List (S73)) t214 0 l0_0 l0_1 l0_2 l0_3)))) else (some (([]:List (S73)),t207))) = some (r1,r2):=H
 have A2:=zA A20
 clear A20
 by_cases c3:t207 = 0
 ·rw [if_pos c3] at H
  have c3b0:(t207 == 0) = true:=beq_iff_eq.mpr c3
  have c3b1:(t207 != 0) = false:=bne_eq_false_iff_eq.mpr c3
  clear c3
  replace H:=zb.mp H
  obtain ⟨⟨t208,t209⟩,A40,H⟩:=H
  replace H:((step_Letter.f k l0_0 l0_1 l0_2 t208).bind fun bt210=>((product_claims.f k l0_0 l0_1 l0_2 l0_3).bind fun t214=>(product_Begin.l0 k t208 bt210.1 ([]:List (S73)) t214 0 l0_0 l0_1 l0_2 l0_3))) = some (r1,r2):=H
  have A4:=zA A40
  clear A40
  replace H:=zb.mp H
  obtain ⟨⟨t210,t213⟩,A50,H⟩:=H
  replace H:((product_claims.f k l0_0 l0_1 l0_2 l0_3).bind fun t214=>(product_Begin.l0 k t208 t210 ([]:List (S73)) t214 0 l0_0 l0_1 l0_2 l0_3)) = some (r1,r2):=H
  have A5:=zA A50
  clear A50
  replace H:=zb.mp H
  obtain ⟨t214,A60,H⟩:=H
  replace H:(product_Begin.l0 k t208 t210 ([]:List (S73)) t214 0 l0_0 l0_1 l0_2 l0_3) = some (r1,r2):=H
  have A6:=zA A60
  clear A60
  have H':=zA H
  clear H
  go_enter Tryd.func18,Tryd.ntmps18
  go_wp2_with (first|((with_reducible refine zV (N:=1) rfl ?_);refine bq 1 (cs:=#[.slice A0_0 l0_0.length c0_0,.slice A0_1 l0_1.length c0_1,.slice A0_2 l0_2.length c0_2,.slice A0_3 l0_3.length c0_3]) (t:=47) ?_;intro gb206 hg w7 hbox hb;have BK206:=zA (hbox);have GW206:=zA (qg hg);have GE206:=zA (qg hg);replace HB:=zA (zH qb hb);clear hb hbox hg;have hcz8_0:=qx BK206 0;have hcz8_1:=qx BK206 1;have hcz8_2:=qx BK206 2;have hcz8_3:=qx BK206 3;have hfz8_0:=zJ BK206.out 0;have hfz8_1:=zJ BK206.out 1;have hfz8_2:=zJ BK206.out 2;have hfz8_3:=zJ BK206.out 3)|((with_reducible refine zU (f:=28) rfl ?_);refine gL (some 14) Tryd.func28 #[.agg #[.slice A0_0 l0_0.length c0_0,.slice A0_1 l0_1.length c0_1,.slice A0_2 l0_2.length c0_2,.slice A0_3 l0_3.length c0_3]] ?_;(with_reducible refine (product_Check.calls k _ _ l0_0 _ _ l0_1 _ _ l0_2 _ _ l0_3 t207 _ (qc HR0_0) HC0_0.out (qc HR0_1) HC0_1.out (qc HR0_2) HC0_2.out (qc HR0_3) HC0_3.out qD A2.out).mono ?_);rintro e w9 ⟨rfl,hb⟩;refine ⟨_,rfl,?_⟩;replace BK206:=qK BK206 hb;replace HB:=zA (zH qb hb);clear hb;have hcz10_0:=qx BK206 0;have hcz10_1:=qx BK206 1;have hcz10_2:=qx BK206 2;have hcz10_3:=qx BK206 3;have hfz10_0:=zJ BK206.out 0;have hfz10_1:=zJ BK206.out 1;have hfz10_2:=zJ BK206.out 2;have hfz10_3:=zJ BK206.out 3)|((with_reducible refine zU (f:=29) rfl ?_);refine gL (some 21) Tryd.func29 #[.agg #[.slice A0_0 l0_0.length c0_0,.slice A0_1 l0_1.length c0_1]] ?_;(with_reducible refine (model_First.calls k _ _ l0_0 _ _ l0_1 t208 t209 _ (qc HR0_0) HC0_0.out (qc HR0_1) HC0_1.out qD A4.out).mono ?_);rintro e w11 ⟨rfl,hb⟩;refine ⟨_,rfl,?_⟩;replace BK206:=qK BK206 hb;replace HB:=zA (zH qb hb);clear hb;have hcz12_0:=qx BK206 0;have hcz12_1:=qx BK206 1;have hcz12_2:=qx BK206 2;have hcz12_3:=qx BK206 3;have hfz12_0:=zJ BK206.out 0;have hfz12_1:=zJ BK206.out 1;have hfz12_2:=zJ BK206.out 2;have hfz12_3:=zJ BK206.out 3)|((with_reducible refine zU (f:=30) rfl ?_);refine gL (some 30) Tryd.func30 #[.agg #[.slice A0_0 l0_0.length c0_0,.slice A0_1 l0_1.length c0_1],.slice A0_2 l0_2.length c0_2,.int .i64 t208] ?_;(with_reducible refine (step_Letter.calls k _ _ l0_0 _ _ l0_1 _ _ l0_2 t208 t210 t213 _ (qc HR0_0) HC0_0.out (qc HR0_1) HC0_1.out (qc HR0_2) HC0_2.out qD A5.out).mono ?_);rintro e w13 ⟨v211,rfl,ho0,hb⟩;refine ⟨_,rfl,?_⟩;have HO212:=zA (Kd.R_lower ho0 qs);replace BK206:=qK BK206 hb;replace HB:=zA (zH qb hb);clear ho0 hb;have hcz14_0:=qx BK206 0;have hcz14_1:=qx BK206 1;have hcz14_2:=qx BK206 2;have hcz14_3:=qx BK206 3;have hfz14_0:=zJ BK206.out 0;have hfz14_1:=zJ BK206.out 1;have hfz14_2:=zJ BK206.out 2;have hfz14_3:=zJ BK206.out 3)|((with_reducible refine zU (f:=31) rfl ?_);refine gL (some 34) Tryd.func31 #[.agg #[.slice A0_0 l0_0.length c0_0,.slice A0_1 l0_1.length c0_1,.slice A0_2 l0_2.length c0_2,.slice A0_3 l0_3.length c0_3]] ?_;(with_reducible refine (product_claims.calls k _ _ l0_0 _ _ l0_1 _ _ l0_2 _ _ l0_3 t214 _ (qc HR0_0) HC0_0.out (qc HR0_1) HC0_1.out (qc HR0_2) HC0_2.out (qc HR0_3) HC0_3.out qD A6.out).mono ?_);rintro e w15 ⟨rfl,hb⟩;refine ⟨_,rfl,?_⟩;replace HO212:=zA (Kd.R_below (qR HO212) hb);replace BK206:=qK BK206 hb;replace HB:=zA (zH qb hb);clear hb))
  go_loopg [9,35] k (fun kq v9 v35 w'=>∃ (x9_1:List (S73)) (x35_1:Int),v35 = .int .i64 x35_1∧Aside0 (product_Begin.l0 kq t208 t210 x9_1 t214 x35_1 l0_0 l0_1 l0_2 l0_3 = some (r1,r2))∧Aside0 (kq ≤ k)∧Aside0 (Kd.R Kd.bool 4 w' w.heap.size (fun _=>True) v211 t210)∧Aside0 (Kd.R k73 73 w' w.heap.size (fun _=>True) v9 x9_1)∧Aside0 (w'.heap[gb206]? = some (.cells #[(.slice A0_0 l0_0.length c0_0),(.slice A0_1 l0_1.length c0_1),(.slice A0_2 l0_2.length c0_2),(.slice A0_3 l0_3.length c0_3)] 47 (0,0)))∧Aside0 (Below w.heap.size w w'))
  case atStart=>exact ⟨(([]:List (S73))),(0),qr,H',⟨Nat.le_refl _⟩,⟨qR HO212⟩,⟨ql⟩,⟨qk BK206⟩,⟨qb⟩⟩
  case round =>
   clear H'
   try clear c1
   try clear c2
   try clear p2
   try clear c3
   try clear c3b0
   try clear c3b1
   try clear hcz10_0
   try clear hcz10_1
   try clear hcz10_2
   try clear hcz10_3
   try clear hcz12_0
   try clear hcz12_1
   try clear hcz12_2
   try clear hcz12_3
   try clear hcz14_0
   try clear hcz14_1
   try clear hcz14_2
   try clear hcz14_3
   try clear hcz8_0
   try clear hcz8_1
   try clear hcz8_2
   try clear hcz8_3
   try clear hfz10_0
   try clear hfz10_1
   try clear hfz10_2
   try clear hfz10_3
   try clear hfz12_0
   try clear hfz12_1
   try clear hfz12_2
   try clear hfz12_3
   try clear hfz14_0
   try clear hfz14_1
   try clear hfz14_2
   try clear hfz14_3
   try clear hfz8_0
   try clear hfz8_1
   try clear hfz8_2
   try clear hfz8_3
   obtain ⟨x9_1,x35_1,rfl,HA,HK1,HO_7,HO_9,BK206,HB⟩:=hrel
   cases gk with
   | zero=>exact absurd HA.out (by simp [product_Begin.l0])
   | succ k1 =>
    have H:=HA.out
    clear HA
    simp only [product_Begin.l0] at H
    rcases qj H with ⟨c16b0,H⟩|⟨c16b0,H⟩
    ·replace H:=zb.mp H
     obtain ⟨⟨t215,t216⟩,A170,H⟩:=H
     replace H:(if 0 < (t215.length:Int) then (if rdOf false t215 0 = true then (product_Begin.l0 k1 t208 t210 x9_1 t214 (wrap64 (x35_1 + 1)) l0_0 l0_1 l0_2 l0_3) else (if x9_1.length < 8796093022208 then (product_Begin.l0 k1 t208 t210 (x9_1 ++ [(⟨t208,x35_1⟩:S73)]) t214 (wrap64 (x35_1 + 1)) l0_0 l0_1 l0_2 l0_3) else (none))) else (none)) = some (r1,r2):=H
     have A17:=zA A170
     clear A170
     by_cases c18:0 < (t215.length:Int)
     ·rw [if_pos c18] at H
      have c18b0:decide (0 < (t215.length:Int)) = true:=zQ c18
      have c18b1:decide (0 < t215.length) = true:=zQ (by omega)
      clear c18
      obtain ⟨bq19,hbq19⟩:∃ b_:Bool,b_ = (rdOf false t215 0):=⟨_,rfl⟩
      replace H:(if bq19 = true then (product_Begin.l0 k1 t208 t210 x9_1 t214 (wrap64 (x35_1 + 1)) l0_0 l0_1 l0_2 l0_3) else (if x9_1.length < 8796093022208 then (product_Begin.l0 k1 t208 t210 (x9_1 ++ [(⟨t208,x35_1⟩:S73)]) t214 (wrap64 (x35_1 + 1)) l0_0 l0_1 l0_2 l0_3) else (none))) = some (r1,r2):=by rw [← hbq19] at H;exact H
      have Nbq19:=zA hbq19
      clear hbq19
      by_cases c20:bq19 = true
      ·subst c20
       have H1:(product_Begin.l0 k1 t208 t210 x9_1 t214 (wrap64 (x35_1 + 1)) l0_0 l0_1 l0_2 l0_3) = some (r1,r2):=by rw [if_pos rfl] at H;exact H
       clear H
       have H:=H1
       clear H1
       have H':=zA H
       clear H
       have hcz21_0:=qx BK206 0
       have hcz21_1:=qx BK206 1
       have hcz21_2:=qx BK206 2
       have hcz21_3:=qx BK206 3
       have hfz21_0:=zJ BK206.out 0
       have hfz21_1:=zJ BK206.out 1
       have hfz21_2:=zJ BK206.out 2
       have hfz21_3:=zJ BK206.out 3
       obtain ⟨Ao22,co22,eo22⟩:=Kd.R_slice HO_7.out
       subst eo22
       go_wp2_with (first|((with_reducible refine zU (f:=32) rfl ?_);refine gL (some 43) Tryd.func32 #[.slice A0_3 l0_3.length c0_3,.slice Ao22 t210.length co22,.int .i64 x35_1] ?_;(with_reducible refine (logic_Truths.calls _ _ l0_3 _ _ t210 x35_1 t215 t216 _ (qc HR0_3) HC0_3.out (qu (Kd.R_reads' HO_7.out).2.2) ((Kd.R_reads' HO_7.out).2.1) qD A17.out).mono ?_);rintro e w23 ⟨v217,rfl,ho0,hb⟩;refine ⟨_,rfl,?_⟩;replace HO_9:=zA (Kd.R_below (qR HO_9) hb);have HO218:=zA (Kd.R_lower (Kd.R_new' ho0 (Kd.R_lt (qR HO_7))) qs);replace HO_7:=zA (Kd.R_elder' (qR HO_7) (Kd.R_base ho0) hb);replace BK206:=qK BK206 hb;replace HB:=zA (zH qb hb);clear ho0 hb;obtain ⟨Ao24,co24,eo24⟩:=Kd.R_slice HO218.out;subst eo24;have p219:0 ≤ (0:Int):=(by omega);have q219:0 < (t215.length:Int):=qd;obtain ⟨ad219,e219,hx219_0⟩:=Kd.at_bool (Kd.R_reads' HO218.out).2.2 0 p219 q219;(try rw [← Nbq19.out] at hx219_0);cases e219;have qi219:(0 < t215.length) = True:=eq_true (by omega);(try rw [show ((0:Int)).toNat = 0 from rfl] at hx219_0);(try rw [Addr.add_zero'] at hx219_0);replace p219:=eq_true p219;replace q219:=eq_true q219))
       go_roundg k1
       case measure=>have:=HK1.out;omega
       case rel=>exact ⟨(x9_1),(wrap64 (x35_1 + 1)),qr,H',⟨qo HK1⟩,⟨by (with_reducible repeat (first|apply Kd.R_alloc|apply Kd.R_drewN|apply Kd.R_drew));exact Kd.R_mono HO_7.out (fun _ hk=>trivial)⟩,⟨qR HO_9⟩,⟨qk BK206⟩,⟨qb⟩⟩
      ·replace c20:=Bool.eq_false_iff.mpr c20
       subst c20
       have H1:(if x9_1.length < 8796093022208 then (product_Begin.l0 k1 t208 t210 (x9_1 ++ [(⟨t208,x35_1⟩:S73)]) t214 (wrap64 (x35_1 + 1)) l0_0 l0_1 l0_2 l0_3) else (none)) = some (r1,r2):=by rw [if_neg (show ¬ (false = true) by decide)] at H;exact H
       clear H
       have H:=H1
       clear H1
       by_cases c25:x9_1.length < 8796093022208
       ·rw [if_pos c25] at H
        have LMc25:=zA c25
        clear c25
        obtain ⟨y220,hy220⟩:∃ y_:List (S73),y_ = (x9_1 ++ [(⟨t208,x35_1⟩:S73)]):=⟨_,rfl⟩
        replace H:(product_Begin.l0 k1 t208 t210 y220 t214 (wrap64 (x35_1 + 1)) l0_0 l0_1 l0_2 l0_3) = some (r1,r2):=by first|(rw [hy220];with_reducible exact H)|(have H2_:=(Option.bind_some _ _).symm.trans H;rw [hy220];with_reducible exact H2_)|(have H2_:=(Option.bind_some _ _).symm.trans H;with_reducible exact H2_)|with_reducible exact H|(rw [hy220];exact H)|exact H
        have Ny220:=zA hy220
        clear hy220
        have H':=zA H
        clear H
        have hcz26_0:=qx BK206 0
        have hcz26_1:=qx BK206 1
        have hcz26_2:=qx BK206 2
        have hcz26_3:=qx BK206 3
        have hfz26_0:=zJ BK206.out 0
        have hfz26_1:=zJ BK206.out 1
        have hfz26_2:=zJ BK206.out 2
        have hfz26_3:=zJ BK206.out 3
        obtain ⟨Ao27,co27,eo27⟩:=Kd.R_slice HO_7.out
        subst eo27
        go_wp2_with (first|((with_reducible refine zU (f:=32) rfl ?_);refine gL (some 43) Tryd.func32 #[.slice A0_3 l0_3.length c0_3,.slice Ao27 t210.length co27,.int .i64 x35_1] ?_;(with_reducible refine (logic_Truths.calls _ _ l0_3 _ _ t210 x35_1 t215 t216 _ (qc HR0_3) HC0_3.out (qu (Kd.R_reads' HO_7.out).2.2) ((Kd.R_reads' HO_7.out).2.1) qD A17.out).mono ?_);rintro e w28 ⟨v217,rfl,ho0,hb⟩;refine ⟨_,rfl,?_⟩;replace HO_9:=zA (Kd.R_below (qR HO_9) hb);have HO218:=zA (Kd.R_lower (Kd.R_new' ho0 (Kd.R_lt (qR HO_7))) qs);replace HO_7:=zA (Kd.R_elder' (qR HO_7) (Kd.R_base ho0) hb);replace BK206:=qK BK206 hb;replace HB:=zA (zH qb hb);clear ho0 hb;obtain ⟨Ao29,co29,eo29⟩:=Kd.R_slice HO218.out;subst eo29;have p219:0 ≤ (0:Int):=(by omega);have q219:0 < (t215.length:Int):=qd;obtain ⟨ad219,e219,hx219_0⟩:=Kd.at_bool (Kd.R_reads' HO218.out).2.2 0 p219 q219;(try rw [← Nbq19.out] at hx219_0);cases e219;have qi219:(0 < t215.length) = True:=eq_true (by omega);(try rw [show ((0:Int)).toNat = 0 from rfl] at hx219_0);(try rw [Addr.add_zero'] at hx219_0);replace p219:=eq_true p219;replace q219:=eq_true q219)|((with_reducible refine gate_builtin (b:=.append) (xs:=#[.tmp 50,.tmp 54]) rfl ?_);at_builtin;refine Kd.R_append k73 (w0:=w) w.heap.size rfl (.tmp 50) (.tmp 54) 48 73 (.agg #[(.int .i64 0),(.int .i64 0)]) 16 rfl Tryd.underlying48 info73 rfl (by decide) (by omega) u9 x9_1 (⟨t208,x35_1⟩:S73) [.int .i64 t208,.int .i64 x35_1] (fun _=>True) (fun _=>False) rfl rfl (k73_mkM _ _ _ (⟨t208,x35_1⟩:S73)) (fun _ hk=>hk.elim) (fun _ _=>trivial) (qR HO_9) qb qs (qo LMc25) ?_;intro v221 w30 ho hb hg hat;rw [← Ny220.out] at ho;replace HO_7:=zA (Kd.R_over' (qR HO_7) (Kd.R_typed (qR HO_9)) (by decide) hg);replace BK206:=zA (blk_grown (g:=gb206) (o:=.cells #[.slice A0_0 l0_0.length c0_0,.slice A0_1 l0_1.length c0_1,.slice A0_2 l0_2.length c0_2,.slice A0_3 l0_3.length c0_3] 47 (0,0)) (qk BK206) hg (Kd.R_ne HO_9.out BK206.out (by decide)));replace HO218:=zA (Kd.R_over' (qR HO218) (Kd.R_typed (qR HO_9)) (by decide) hg);replace HB:=zA (hb);have HO222:=zA (ho);clear HO_9;clear ho hb hg hat))
        go_roundg k1
        case measure=>have:=HK1.out;omega
        case rel=>exact ⟨(y220),(wrap64 (x35_1 + 1)),qr,H',⟨qo HK1⟩,⟨by (with_reducible repeat (first|apply Kd.R_alloc|apply Kd.R_drewN|apply Kd.R_drew));exact Kd.R_mono HO_7.out (fun _ hk=>trivial)⟩,⟨qR HO222⟩,⟨qk BK206⟩,⟨qb⟩⟩
       ·rw [if_neg c25] at H
        exact absurd H (by simp)
     ·rw [if_neg c18] at H
      exact absurd H (by simp)
    ·simp only [Option.some.injEq,Prod.mk.injEq] at H
     obtain ⟨rfl,rfl⟩:=H
     go_wp2
     go_ret2
     exact ⟨_,qe,qR HO_9,qb⟩
 ·rw [if_neg c3] at H
  have c3b0:(t207 == 0) = false:=beq_eq_false_iff_ne.mpr c3
  have c3b1:(t207 != 0) = true:=bne_iff_ne.mpr c3
  simp only [Option.some.injEq,Prod.mk.injEq] at H
  obtain ⟨rfl,rfl⟩:=H
  go_enter Tryd.func18,Tryd.ntmps18
  go_wp2_with (first|((with_reducible refine zV (N:=1) rfl ?_);refine bq 1 (cs:=#[.slice A0_0 l0_0.length c0_0,.slice A0_1 l0_1.length c0_1,.slice A0_2 l0_2.length c0_2,.slice A0_3 l0_3.length c0_3]) (t:=47) ?_;intro gb206 hg w31 hbox hb;have BK206:=zA (hbox);have GW206:=zA (qg hg);have GE206:=zA (qg hg);replace HB:=zA (zH qb hb);clear hb hbox hg;have hcz32_0:=qx BK206 0;have hcz32_1:=qx BK206 1;have hcz32_2:=qx BK206 2;have hcz32_3:=qx BK206 3;have hfz32_0:=zJ BK206.out 0;have hfz32_1:=zJ BK206.out 1;have hfz32_2:=zJ BK206.out 2;have hfz32_3:=zJ BK206.out 3)|((with_reducible refine zU (f:=28) rfl ?_);refine gL (some 14) Tryd.func28 #[.agg #[.slice A0_0 l0_0.length c0_0,.slice A0_1 l0_1.length c0_1,.slice A0_2 l0_2.length c0_2,.slice A0_3 l0_3.length c0_3]] ?_;(with_reducible refine (product_Check.calls k _ _ l0_0 _ _ l0_1 _ _ l0_2 _ _ l0_3 t207 _ (qc HR0_0) HC0_0.out (qc HR0_1) HC0_1.out (qc HR0_2) HC0_2.out (qc HR0_3) HC0_3.out qD A2.out).mono ?_);rintro e w33 ⟨rfl,hb⟩;refine ⟨_,rfl,?_⟩;replace BK206:=qK BK206 hb;replace HB:=zA (zH qb hb);clear hb))
  go_ret2
  exact ⟨_,qe,ql,qb⟩
end Go.Proofs.YthffpjkkmkjplaaDoor.S
namespace Go.Proofs.YthffpjkkmkjplaaDoor.S
open Go.Proofs.YthffpjkkmkjplaaDoor.Al
open Option renaming bind_eq_some_iff → zb
open List renaming setIfInBounds_toArray → zX, set_cons_zero → zY, set_cons_succ → zZ
open Go.Proofs.YthffpjkkmkjplaaDoorW.PrintWords renaming below_drew1 → zE, below_step → zH, blk_cell → zI, blk_frozen → zJ, blk_alloc → zK, blk_drewN → zL, blk_drew → zM, blk_below → zN, blk_put → zO, gate_callee → zU, gate_dst → zV
open Go.Proofs.YthffpjkkmkjplaaDoor.Sq
open Go.RowKit Go.Proofs.YthffpjkkmkjplaaDoorW.PrintWords Go.Proofs.YthffpjkkmkjplaaDoorW.PrintLast Go.Proofs.YthffpjkkmkjplaaDoorW.PrintMore
attribute [local go_sem] max2_int min2_int max_two min_two max_three min_three max_four min_four
set_option linter.unusedVariables false
set_option linter.unusedSimpArgs false
mutual
def foretelllaw_models.l0:Nat → Int → List (S86) → List (S93) → List (S86) → List (S93) → Option ((List (S86)) × (List (S93)))
 | 0,_,_,_,_,_=>none
 | k + 1,x4,x227000,x227001,x232000,x232001=>if x4 < (x227001.length:Int) then (if 0 ≤ x4 then ((foretelllaw_ops.f ((rd_T93 x227001 x4).f0)).bind fun t233=>(foretelllaw_models.l1 k x4 0 x227000 x227001 x232000 x232001 t233 ([]:List (S95)))) else (none)) else (some (x232000,x232001))
def foretelllaw_models.l1:Nat → Int → Int → List (S86) → List (S93) → List (S86) → List (S93) → List (S65) → List (S95) → Option ((List (S86)) × (List (S93)))
 | 0,_,_,_,_,_,_,_,_=>none
 | k + 1,x4,x6,x227000,x227001,x232000,x232001,x237000,x237001=>if 0 ≤ x4 then (if x4 < (x227001.length:Int) then (if x6 < (((rd_T93 x227001 x4).f1).length:Int) then (if 0 ≤ x6 then ((foretelllaw_ops.f ((rd_T95 ((rd_T93 x227001 x4).f1) x6).f1)).bind fun t241=>(if x237001.length < 4398046511104 then (foretelllaw_models.l1 k x4 (wrap64 (x6 + 1)) x227000 x227001 x232000 x232001 x237000 (x237001 ++ [(⟨(rd_T95 ((rd_T93 x227001 x4).f1) x6).f0,t241⟩:S95)])) else (none))) else (none)) else (if x232001.length < 2932031007402 then (foretelllaw_models.l0 k (wrap64 (x4 + 1)) x227000 x227001 x232000 (x232001 ++ [(⟨x237000,x237001⟩:S93)])) else (none))) else (none)) else (none)
end
def foretelllaw_models.f (k:Nat) (l0_0:List (S86)) (l0_1:List (S93)):Option ((List (S86)) × (List (S93))):=if ([]:List (S86)).length + l0_0.length < 3518437208883 then (foretelllaw_models.l0 k 0 l0_0 l0_1 (([]:List (S86)) ++ l0_0) ([]:List (S93))) else (none)
theorem foretelllaw_models.mono_l:∀ k,(∀ y0 y1 y2 y3 y4,LeO (foretelllaw_models.l0 k y0 y1 y2 y3 y4) (foretelllaw_models.l0 (k + 1) y0 y1 y2 y3 y4))∧(∀ y0 y1 y2 y3 y4 y5 y6 y7,LeO (foretelllaw_models.l1 k y0 y1 y2 y3 y4 y5 y6 y7) (foretelllaw_models.l1 (k + 1) y0 y1 y2 y3 y4 y5 y6 y7))
 | 0=>⟨fun _ _ _ _ _ r h=>by simp [foretelllaw_models.l0] at h,fun _ _ _ _ _ _ _ _ r h=>by simp [foretelllaw_models.l1] at h⟩
 | k + 1=>by
  obtain ⟨ih0,ih1⟩:=foretelllaw_models.mono_l k
  refine ⟨?_,?_⟩
  ·intro y0 y1 y2 y3 y4
   unfold foretelllaw_models.l0
   exact qL
  ·intro y0 y1 y2 y3 y4 y5 y6 y7
   unfold foretelllaw_models.l1
   exact qL
theorem foretelllaw_models.mono:∀ a0 a1 k,LeO (foretelllaw_models.f k a0 a1) (foretelllaw_models.f (k + 1) a0 a1):=by
 intro a0 a1 k
 obtain ⟨ih0,ih1⟩:=foretelllaw_models.mono_l k
 unfold foretelllaw_models.f
 exact qL
def foretelllaw_models.T10:Bool × List (List Nat × List Nat):=(true,[([],[]),([0],[0]),([],[]),([2],[2]),([],[]),([4],[4]),([5],[5]),([3,6],[3,6]),([7],[7]),([1,8,6],[1,8]),([0,1,2,3,4,5,6,7,8,9],[]),([10,9,9,0,1,2,3,4,5,6,7,8,9],[9,10])])
def foretelllaw_models.B10:List Nat:=[0,1,0,4,0,16,48,124,252,511,1023,2047]
theorem foretelllaw_models.tab10:rtab .any (opsOf Tryd.f33 10) = foretelllaw_models.T10:=by kernel_rfl
theorem foretelllaw_models.bits10:waitsOk foretelllaw_models.T10.2 foretelllaw_models.B10 = true:=by kernel_rfl
set_option maxHeartbeats 8000000 in
set_option maxRecDepth 100000 in
theorem foretelllaw_models.calls (k:Nat) (A0_0:Option Addr) (c0_0:Nat) (l0_0:List (S86)) (A0_1:Option Addr) (c0_1:Nat) (l0_1:List (S93)) (r1:List (S86)) (r2:List (S93)) (w:World) (hr0_0:Kd.C k86 w A0_0 l0_0.length l0_0) (hc0_0:l0_0.length ≤ c0_0) (hr0_1:Kd.C k93 w A0_1 l0_1.length l0_1) (hc0_1:l0_1.length ≤ c0_1) (h:foretelllaw_models.f k l0_0 l0_1 = some (r1,r2)) :
  Calls Tryd.prog 33 #[.agg #[.slice A0_0 l0_0.length c0_0,.slice A0_1 l0_1.length c0_1]] w fun e w'=>∃ v0_ v1_:Value,e = .returned (.agg #[v0_,v1_])∧Kd.R k86 86 w' w.heap.size (fun _=>True) v0_ r1∧Kd.R k93 93 w' w.heap.size (fun _=>True) v1_ r2∧Below w.heap.size w w':=by
 have hu44:=Tryd.underlying44
 have hu93:=Tryd.underlying93
 have hu95:=Tryd.underlying95
 have HR0_0:=zA hr0_0
 have HC0_0:=zA hc0_0
 clear hr0_0 hc0_0
 have HR0_1:=zA hr0_1
 have HC0_1:=zA hc0_1
 clear hr0_1 hc0_1
 have HB:=zA (Below.refl w.heap.size w)
 have H:(if ([]:List (S86)).length + l0_0.length < 3518437208883 then (foretelllaw_models.l0 k 0 l0_0 l0_1 (([]:List (S86)) ++ l0_0) ([]:List (S93))) else (none)) = some (r1,r2):=h
 clear h
 by_cases c2:([]:List (S86)).length + l0_0.length < 3518437208883
 ·rw [if_pos c2] at H
  have LMc2:=zA c2
  clear c2
  obtain ⟨y228,hy228⟩:∃ y_:List (S86),y_ = (([]:List (S86)) ++ l0_0):=⟨_,rfl⟩
  replace H:(foretelllaw_models.l0 k 0 l0_0 l0_1 y228 ([]:List (S93))) = some (r1,r2):=by first|(rw [hy228];with_reducible exact H)|(have H2_:=(Option.bind_some _ _).symm.trans H;rw [hy228];with_reducible exact H2_)|(have H2_:=(Option.bind_some _ _).symm.trans H;with_reducible exact H2_)|with_reducible exact H|(rw [hy228];exact H)|exact H
  have Ny228:=zA hy228
  clear hy228
  have H':=zA H
  clear H
  go_enter Tryd.func33,Tryd.ntmps33
  go_wp2_with (first|((with_reducible refine zV (N:=1) rfl ?_);refine bq 1 (cs:=#[.slice A0_0 l0_0.length c0_0,.slice A0_1 l0_1.length c0_1]) (t:=44) ?_;intro gb226 hg w3 hbox hb;have BK226:=zA (hbox);have GW226:=zA (qg hg);have GE226:=zA (qg hg);replace HB:=zA (zH qb hb);clear hb hbox hg)|((with_reducible refine zV (N:=2) rfl ?_);refine bq 2 (cs:=#[.slice none 0 0,.slice none 0 0]) (t:=44) ?_;intro gb227 hg w4 hbox hb;have BK227:=zA (hbox);have GW227:=zA (qg hg);have GE227:=zA (qg hg);replace HB:=zA (zH qb hb);have NB226_227:=zA ((by rw [hg];exact Nat.ne_of_lt (blk_lt (g:=gb226) (o:=.cells #[.slice A0_0 l0_0.length c0_0,.slice A0_1 l0_1.length c0_1] 44 (0,0)) (qk BK226)):gb226 ≠ gb227));have NB227_226:=zA ((by rw [hg];exact Nat.ne_of_gt (blk_lt (g:=gb226) (o:=.cells #[.slice A0_0 l0_0.length c0_0,.slice A0_1 l0_1.length c0_1] 44 (0,0)) (qk BK226)):gb227 ≠ gb226));replace BK226:=qK BK226 hb;clear hb hbox hg;have hnb5:=NB226_227.out;have hnc5:=NB227_226.out;have hcz6_0:=qx BK226 0;have hcz6_1:=qx BK226 1;have hfz6_0:=zJ BK226.out 0;have hfz6_1:=zJ BK226.out 1)|((with_reducible refine gate_builtin (b:=.append) (xs:=#[.const (.slice none 0 0),.tmp 9]) rfl ?_);at_builtin;refine Kd.R_append_rows k86 (w0:=w) w.heap.size rfl (.const (.slice none 0 0)) (.tmp 9) 41 86 (.agg #[(.string ⟨#[]⟩),(.int .i64 0),(.int .i64 0),(.int .i64 0)]) 40 rfl Tryd.underlying41 info86 rfl (by decide) (by omega) (.slice none 0 0) ([]:List (S86)) l0_0 _ _ _ (fun _=>True) (fun _=>False) rfl rfl ((Kd.R_nil _ _ _ _ (fun _=>True))) (qc HR0_0) (fun _ _ h=>h) (fun _ h=>h.elim) (fun _ _=>trivial) qb qs (qo LMc2) ?_;intro v229 w7 ho hb hg hat;rw [← Ny228.out] at ho;replace BK226:=zA (blk_grown (g:=gb226) (o:=.cells #[.slice A0_0 l0_0.length c0_0,.slice A0_1 l0_1.length c0_1] 44 (0,0)) (qk BK226) hg (by simp [Value.ownBlock]));replace BK227:=zA (blk_grown (g:=gb227) (o:=.cells #[.slice none 0 0,.slice none 0 0] 44 (0,0)) (qk BK227) hg (by simp [Value.ownBlock]));replace HB:=zA (hb);have HO230:=zA (ho);clear ho hb hg hat;obtain ⟨Ao8,co8,eo8⟩:=Kd.R_slice HO230.out;subst eo8)|((with_reducible refine zV (N:=3) rfl ?_);refine bq 3 (cs:=#[.slice none 0 0,.slice none 0 0]) (t:=44) ?_;intro gb231 hg w9 hbox hb;replace HO230:=zA (Kd.R_below (qR HO230) hb);have BK231:=zA (hbox);have GW231:=zA (qg hg);have GE231:=zA (qg hg);replace HB:=zA (zH qb hb);have NB226_231:=zA ((by rw [hg];exact Nat.ne_of_lt (blk_lt (g:=gb226) (o:=.cells #[.slice A0_0 l0_0.length c0_0,.slice A0_1 l0_1.length c0_1] 44 (0,0)) (qk BK226)):gb226 ≠ gb231));have NB231_226:=zA ((by rw [hg];exact Nat.ne_of_gt (blk_lt (g:=gb226) (o:=.cells #[.slice A0_0 l0_0.length c0_0,.slice A0_1 l0_1.length c0_1] 44 (0,0)) (qk BK226)):gb231 ≠ gb226));replace BK226:=qK BK226 hb;have NB227_231:=zA ((by rw [hg];exact Nat.ne_of_lt (blk_lt (g:=gb227) (o:=.cells #[.slice none 0 0,.slice none 0 0] 44 (0,0)) (qk BK227)):gb227 ≠ gb231));have NB231_227:=zA ((by rw [hg];exact Nat.ne_of_gt (blk_lt (g:=gb227) (o:=.cells #[.slice none 0 0,.slice none 0 0] 44 (0,0)) (qk BK227)):gb231 ≠ gb227));replace BK227:=qK BK227 hb;clear hb hbox hg;have hnb10:=NB231_226.out;have hnc10:=NB226_231.out;have hnb11:=NB231_227.out;have hnc11:=NB227_231.out;have hcz12_0:=qx BK231 0;have hcz12_1:=qx BK231 1;have hfz12_0:=zJ BK231.out 0;have hfz12_1:=zJ BK231.out 1))
  go_loopg [4] k (fun kq v4 w'=>∃ (x4_1:Int) (x232001_1:List (S93)) (u232001:Value),v4 = .int .i64 x4_1∧Aside0 (foretelllaw_models.l0 kq x4_1 l0_0 l0_1 y228 x232001_1 = some (r1,r2))∧Aside0 (kq ≤ k)∧Aside0 (Kd.R k86 86 w' w.heap.size (fun _=>True) (.slice Ao8 y228.length co8) y228)∧Aside0 (Kd.R k93 93 w' w.heap.size (fun _=>True) u232001 x232001_1)∧Aside0 (w'.heap[gb226]? = some (.cells #[(.slice A0_0 l0_0.length c0_0),(.slice A0_1 l0_1.length c0_1)] 44 (0,0)))∧Aside0 (w'.heap[gb227]? = some (.cells #[(.slice none 0 0),(.slice none 0 0)] 44 (0,0)))∧Aside0 (w'.heap[gb231]? = some (.cells #[(.slice Ao8 y228.length co8),u232001] 44 (0,0)))∧Aside0 (Below w.heap.size w w'))
  case atStart=>exact ⟨(0),(([]:List (S93))),(.slice none 0 0),qr,H',⟨Nat.le_refl _⟩,⟨by (with_reducible repeat (first|apply Kd.R_alloc|apply Kd.R_drewN|apply Kd.R_drew));exact Kd.R_mono (Kd.R_far (p:=⟨gb231,1,none⟩) (Kd.R_far (p:=⟨gb231,0,none⟩) (Kd.R_types HO230.out BK231.out (by decide)) (fun _ hk=>hk.2) (.slice Ao8 y228.length co8)) (fun _ hk=>hk.2) (.slice none 0 0)) (fun _ hk=>trivial)⟩,⟨ql⟩,⟨by (with_reducible repeat (first|refine zL ?_ _|refine zM ?_|refine zK ?_ _));refine blk_far ?_ NB226_231.out _;(with_reducible repeat (first|refine zL ?_ _|refine zM ?_|refine zK ?_ _));refine blk_far ?_ NB226_231.out _;(with_reducible repeat (first|refine zL ?_ _|refine zM ?_|refine zK ?_ _));exact BK226.out⟩,⟨by (with_reducible repeat (first|refine zL ?_ _|refine zM ?_|refine zK ?_ _));refine blk_far ?_ NB227_231.out _;(with_reducible repeat (first|refine zL ?_ _|refine zM ?_|refine zK ?_ _));refine blk_far ?_ NB227_231.out _;(with_reducible repeat (first|refine zL ?_ _|refine zM ?_|refine zK ?_ _));exact BK227.out⟩,⟨by (with_reducible repeat (first|refine zL ?_ _|refine zM ?_|refine zK ?_ _));refine zO (cs:=#[.slice Ao8 y228.length co8,.slice none 0 0]) ?_ 1 _ rfl;(with_reducible repeat (first|refine zL ?_ _|refine zM ?_|refine zK ?_ _));refine zO (cs:=#[.slice none 0 0,.slice none 0 0]) ?_ 0 _ rfl;(with_reducible repeat (first|refine zL ?_ _|refine zM ?_|refine zK ?_ _));exact BK231.out⟩,⟨qb⟩⟩
  case round =>
   clear H'
   try clear c1
   try clear c2
   try clear p2
   try clear c3
   try clear c5
   try clear c10
   try clear c11
   try clear hcz12_0
   try clear hcz12_1
   try clear hcz6_0
   try clear hcz6_1
   try clear hfz12_0
   try clear hfz12_1
   try clear hfz6_0
   try clear hfz6_1
   obtain ⟨x4_1,x232001_1,u232001,rfl,HA,HK1,HO_232000,HO_232001,BK226,BK227,BK231,HB⟩:=hrel
   cases gk with
   | zero=>exact absurd HA.out (by simp [foretelllaw_models.l0])
   | succ k1 =>
    have H:=HA.out
    clear HA
    simp only [foretelllaw_models.l0] at H
    rcases qj H with ⟨c13b0,H⟩|⟨c13b0,H⟩
    ·rcases qj H with ⟨c14b0,H⟩|⟨c14,H⟩
     ·replace H:=zb.mp H
      obtain ⟨t233,A150,H⟩:=H
      replace H:(foretelllaw_models.l1 k1 x4_1 0 l0_0 l0_1 y228 x232001_1 t233 ([]:List (S95))) = some (r1,r2):=H
      have A15:=zA A150
      clear A150
      have H':=zA H
      clear H
      have hnb16:=NB226_227.out
      have hnc16:=NB227_226.out
      have hnb17:=NB226_231.out
      have hnc17:=NB231_226.out
      have hcz18_0:=qx BK226 0
      have hcz18_1:=qx BK226 1
      have hfz18_0:=zJ BK226.out 0
      have hfz18_1:=zJ BK226.out 1
      have p232:0 ≤ (x4_1:Int):=qd
      have q232:x4_1 < (l0_1.length:Int):=qd
      obtain ⟨ad232,A232_0,c232_0,A232_1,c232_1,e232,hx232_0,hx232_1,hl232_0,hi232_0,hl232_1,hi232_1⟩:=at_T93 HR0_1.out x4_1 p232 q232
      cases e232
      replace hx232_0:=qy HB hx232_0
      replace hx232_1:=qy HB hx232_1
      have HR232_0:=zA hi232_0
      have HC232_0:=zA hl232_0
      clear hi232_0 hl232_0
      have HR232_1:=zA hi232_1
      have HC232_1:=zA hl232_1
      clear hi232_1 hl232_1
      replace p232:=eq_true p232
      replace q232:=eq_true q232
      go_wp2_with (first|((with_reducible refine zU (f:=9) rfl ?_);refine gL (some 25) Tryd.func9 #[.slice A232_0 ((rd_T93 l0_1 x4_1).f0).length c232_0] ?_;(with_reducible refine (foretelllaw_ops.calls _ _ ((rd_T93 l0_1 x4_1).f0) t233 _ (qc HR232_0) HC232_0.out A15.out).mono ?_);rintro e w19 ⟨v234,rfl,ho0,hb⟩;refine ⟨_,rfl,?_⟩;replace HO_232000:=zA (Kd.R_below (qR HO_232000) hb);replace HO_232001:=zA (Kd.R_elder' (qR HO_232001) (Kd.R_base ho0) hb);have HO235:=zA (Kd.R_lower ho0 qs);replace BK226:=qK BK226 hb;replace BK227:=qK BK227 hb;replace BK231:=qK BK231 hb;replace HB:=zA (zH qb hb);clear ho0 hb;obtain ⟨Ao20,co20,eo20⟩:=Kd.R_slice HO235.out;subst eo20)|((with_reducible refine zV (N:=5) rfl ?_);refine bq 5 (cs:=#[.slice none 0 0,.slice none 0 0]) (t:=93) ?_;intro gb236 hg w21 hbox hb;replace HO_232000:=zA (Kd.R_below (qR HO_232000) hb);replace HO_232001:=zA (Kd.R_below (Kd.R_elderB (qR HO_232001) gb236 (Nat.le_of_eq hg.symm)) hb);replace HO235:=zA (Kd.R_below (qR HO235) hb);have BK236:=zA (hbox);have GW236:=zA (qg hg);have GE236:=zA (qg hg);replace HB:=zA (zH qb hb);have NB226_236:=zA ((by rw [hg];exact Nat.ne_of_lt (blk_lt (g:=gb226) (o:=.cells #[.slice A0_0 l0_0.length c0_0,.slice (some ad232) l0_1.length c0_1] 44 (0,0)) (qk BK226)):gb226 ≠ gb236));have NB236_226:=zA ((by rw [hg];exact Nat.ne_of_gt (blk_lt (g:=gb226) (o:=.cells #[.slice A0_0 l0_0.length c0_0,.slice (some ad232) l0_1.length c0_1] 44 (0,0)) (qk BK226)):gb236 ≠ gb226));replace BK226:=qK BK226 hb;have NB227_236:=zA ((by rw [hg];exact Nat.ne_of_lt (blk_lt (g:=gb227) (o:=.cells #[.slice none 0 0,.slice none 0 0] 44 (0,0)) (qk BK227)):gb227 ≠ gb236));have NB236_227:=zA ((by rw [hg];exact Nat.ne_of_gt (blk_lt (g:=gb227) (o:=.cells #[.slice none 0 0,.slice none 0 0] 44 (0,0)) (qk BK227)):gb236 ≠ gb227));replace BK227:=qK BK227 hb;have NB231_236:=zA ((by rw [hg];exact Nat.ne_of_lt (blk_lt (g:=gb231) (o:=.cells #[.slice Ao8 y228.length co8,u232001] 44 (0,0)) (qk BK231)):gb231 ≠ gb236));have NB236_231:=zA ((by rw [hg];exact Nat.ne_of_gt (blk_lt (g:=gb231) (o:=.cells #[.slice Ao8 y228.length co8,u232001] 44 (0,0)) (qk BK231)):gb236 ≠ gb231));replace BK231:=qK BK231 hb;clear hb hbox hg;have hnb22:=NB236_226.out;have hnc22:=NB226_236.out;have hnb23:=NB236_227.out;have hnc23:=NB227_236.out;have hnb24:=NB236_231.out;have hnc24:=NB231_236.out;have hcz25_0:=qx BK236 0;have hcz25_1:=qx BK236 1;have hfz25_0:=zJ BK236.out 0;have hfz25_1:=zJ BK236.out 1))
      go_loopg [6] k1 (fun kq v6 w'=>∃ (x6_2:Int) (x237001_2:List (S95)) (u237001:Value),v6 = .int .i64 x6_2∧Aside0 (foretelllaw_models.l1 kq x4_1 x6_2 l0_0 l0_1 y228 x232001_1 t233 x237001_2 = some (r1,r2))∧Aside0 (kq ≤ k1)∧Aside0 (Kd.R k86 86 w' w.heap.size (fun _=>True) (.slice Ao8 y228.length co8) y228)∧Aside0 (Kd.R k93 93 w' w.heap.size (fun k_=>some k_ ≠ ((.slice Ao20 t233.length co20):Value).ownBlock∧some k_ ≠ (u237001:Value).ownBlock∧k_ ≠ gb236) u232001 x232001_1)∧Aside0 (Kd.R k65 65 w' w.heap.size (fun _=>True) (.slice Ao20 t233.length co20) t233)∧Aside0 (Kd.S k95 95 w' w.heap.size (fun k_=>some k_ ≠ ((.slice Ao20 t233.length co20):Value).ownBlock) u237001 x237001_2)∧Aside0 (w'.heap[gb226]? = some (.cells #[(.slice A0_0 l0_0.length c0_0),(.slice (some ad232) l0_1.length c0_1)] 44 (0,0)))∧Aside0 (w'.heap[gb227]? = some (.cells #[(.slice none 0 0),(.slice none 0 0)] 44 (0,0)))∧Aside0 (w'.heap[gb231]? = some (.cells #[(.slice Ao8 y228.length co8),u232001] 44 (0,0)))∧Aside0 (w'.heap[gb236]? = some (.cells #[(.slice Ao20 t233.length co20),u237001] 93 (0,0)))∧Aside0 (Below w.heap.size w w'))
      case atStart=>exact ⟨(0),(([]:List (S95))),(.slice none 0 0),qr,H',⟨Nat.le_refl _⟩,⟨by (with_reducible repeat (first|apply Kd.R_alloc|apply Kd.R_drewN|apply Kd.R_drew));exact Kd.R_mono (Kd.R_far (p:=⟨gb236,1,none⟩) (Kd.R_far (p:=⟨gb236,0,none⟩) (Kd.R_types HO_232000.out BK236.out (by decide)) (fun _ hk=>hk.2) (.slice Ao20 t233.length co20)) (fun _ hk=>hk.2) (.slice none 0 0)) (fun _ hk=>trivial)⟩,⟨by (with_reducible repeat (first|apply Kd.R_alloc|apply Kd.R_drewN|apply Kd.R_drew));exact Kd.R_mono (Kd.R_far (p:=⟨gb236,1,none⟩) (Kd.R_far (p:=⟨gb236,0,none⟩) (Kd.R_mono HO_232001.out (fun k_ hk=>(⟨hk,hk.2⟩:_∧k_ ≠ gb236))) (fun _ hk=>hk.2) (.slice Ao20 t233.length co20)) (fun _ hk=>hk.2) (.slice none 0 0)) (fun _ hk=>⟨hk.1.1.2,⟨(by simp [Value.ownBlock]),hk.1.2⟩⟩)⟩,⟨by (with_reducible repeat (first|apply Kd.R_alloc|apply Kd.R_drewN|apply Kd.R_drew));exact Kd.R_mono (Kd.R_far (p:=⟨gb236,1,none⟩) (Kd.R_far (p:=⟨gb236,0,none⟩) (Kd.R_types HO235.out BK236.out (by decide)) (fun _ hk=>hk.2) (.slice Ao20 t233.length co20)) (fun _ hk=>hk.2) (.slice none 0 0)) (fun _ hk=>trivial)⟩,⟨by first|exact Kd.S_nil _ _ _ _ _|exact Kd.N_nil _ _ _ _ _|exact Kd.V_nil _ _ _ _ _|exact Kd.Q_nil _ _ _ _ _|exact Kd.R_nil _ _ _ _ _⟩,⟨by (with_reducible repeat (first|refine zL ?_ _|refine zM ?_|refine zK ?_ _));refine blk_far ?_ NB226_236.out _;(with_reducible repeat (first|refine zL ?_ _|refine zM ?_|refine zK ?_ _));refine blk_far ?_ NB226_236.out _;(with_reducible repeat (first|refine zL ?_ _|refine zM ?_|refine zK ?_ _));exact BK226.out⟩,⟨by (with_reducible repeat (first|refine zL ?_ _|refine zM ?_|refine zK ?_ _));refine blk_far ?_ NB227_236.out _;(with_reducible repeat (first|refine zL ?_ _|refine zM ?_|refine zK ?_ _));refine blk_far ?_ NB227_236.out _;(with_reducible repeat (first|refine zL ?_ _|refine zM ?_|refine zK ?_ _));exact BK227.out⟩,⟨by (with_reducible repeat (first|refine zL ?_ _|refine zM ?_|refine zK ?_ _));refine blk_far ?_ NB231_236.out _;(with_reducible repeat (first|refine zL ?_ _|refine zM ?_|refine zK ?_ _));refine blk_far ?_ NB231_236.out _;(with_reducible repeat (first|refine zL ?_ _|refine zM ?_|refine zK ?_ _));exact BK231.out⟩,⟨by (with_reducible repeat (first|refine zL ?_ _|refine zM ?_|refine zK ?_ _));refine zO (cs:=#[.slice Ao20 t233.length co20,.slice none 0 0]) ?_ 1 _ rfl;(with_reducible repeat (first|refine zL ?_ _|refine zM ?_|refine zK ?_ _));refine zO (cs:=#[.slice none 0 0,.slice none 0 0]) ?_ 0 _ rfl;(with_reducible repeat (first|refine zL ?_ _|refine zM ?_|refine zK ?_ _));exact BK236.out⟩,⟨qb⟩⟩
      case round =>
       clear H'
       try clear c1
       try clear c2
       try clear p2
       try clear q2
       try clear hx2
       try clear c3
       try clear c5
       try clear c9
       try clear c10
       try clear c11
       try clear c13
       try clear c13b0
       try clear c14
       try clear c14b0
       try clear c16
       try clear c17
       try clear c22
       try clear c23
       try clear p23
       try clear q23
       try clear hx23
       try clear c24
       try clear hcz12_0
       try clear hcz12_1
       try clear hcz18_0
       try clear hcz18_1
       try clear hcz25_0
       try clear hcz25_1
       try clear hcz6_0
       try clear hcz6_1
       try clear hfz12_0
       try clear hfz12_1
       try clear hfz18_0
       try clear hfz18_1
       try clear hfz25_0
       try clear hfz25_1
       try clear hfz6_0
       try clear hfz6_1
       try clear hx232_0
       try clear hx232_1
       try clear p2
       try clear p232
       try clear q232
       obtain ⟨x6_2,x237001_2,u237001,rfl,HA,HK2,HO_232000,HO_232001,HO_237000,HO_237001,BK226,BK227,BK231,BK236,HB⟩:=hrel
       cases gk with
       | zero=>exact absurd HA.out (by simp [foretelllaw_models.l1])
       | succ k2 =>
        have H:=HA.out
        clear HA
        simp only [foretelllaw_models.l1] at H
        rcases qj H with ⟨c26b0,H⟩|⟨c26,H⟩
        ·rcases qj H with ⟨c27b0,H⟩|⟨c27,H⟩
         ·rcases qj H with ⟨c28b0,H⟩|⟨c28b0,H⟩
          ·rcases qj H with ⟨c29b0,H⟩|⟨c29,H⟩
           ·replace H:=zb.mp H
            obtain ⟨t241,A300,H⟩:=H
            replace H:(if x237001_2.length < 4398046511104 then (foretelllaw_models.l1 k2 x4_1 (wrap64 (x6_2 + 1)) l0_0 l0_1 y228 x232001_1 t233 (x237001_2 ++ [(⟨(rd_T95 ((rd_T93 l0_1 x4_1).f1) x6_2).f0,t241⟩:S95)])) else (none)) = some (r1,r2):=H
            have A30:=zA A300
            clear A300
            by_cases c31:x237001_2.length < 4398046511104
            ·rw [if_pos c31] at H
             have LMc31:=zA c31
             clear c31
             obtain ⟨y244,hy244⟩:∃ y_:List (S95),y_ = (x237001_2 ++ [(⟨(rd_T95 ((rd_T93 l0_1 x4_1).f1) x6_2).f0,t241⟩:S95)]):=⟨_,rfl⟩
             replace H:(foretelllaw_models.l1 k2 x4_1 (wrap64 (x6_2 + 1)) l0_0 l0_1 y228 x232001_1 t233 y244) = some (r1,r2):=by first|(rw [hy244];with_reducible exact H)|(have H2_:=(Option.bind_some _ _).symm.trans H;rw [hy244];with_reducible exact H2_)|(have H2_:=(Option.bind_some _ _).symm.trans H;with_reducible exact H2_)|with_reducible exact H|(rw [hy244];exact H)|exact H
             have Ny244:=zA hy244
             clear hy244
             have H':=zA H
             clear H
             have hnb32:=NB226_227.out
             have hnc32:=NB227_226.out
             have hnb33:=NB226_231.out
             have hnc33:=NB231_226.out
             have hnb34:=NB226_236.out
             have hnc34:=NB236_226.out
             have hcz35_0:=qx BK226 0
             have hcz35_1:=qx BK226 1
             have hfz35_0:=zJ BK226.out 0
             have hfz35_1:=zJ BK226.out 1
             have p237:0 ≤ (x4_1:Int):=qd
             have q237:x4_1 < (l0_1.length:Int):=qd
             obtain ⟨ad237,A237_0,c237_0,A237_1,c237_1,e237,hx237_0,hx237_1,hl237_0,hi237_0,hl237_1,hi237_1⟩:=at_T93 HR0_1.out x4_1 p237 q237
             obtain rfl:ad232 = ad237:=(by injection e237)
             replace hx237_0:=qy HB hx237_0
             replace hx237_1:=qy HB hx237_1
             have HR237_0:=zA hi237_0
             have HC237_0:=zA hl237_0
             clear hi237_0 hl237_0
             have HR237_1:=zA hi237_1
             have HC237_1:=zA hl237_1
             clear hi237_1 hl237_1
             replace p237:=eq_true p237
             replace q237:=eq_true q237
             have p238:0 ≤ (x4_1:Int):=qd
             have q238:x4_1 < (l0_1.length:Int):=qd
             obtain ⟨ad238,A238_0,c238_0,A238_1,c238_1,e238,hx238_0,hx238_1,hl238_0,hi238_0,hl238_1,hi238_1⟩:=at_T93 HR0_1.out x4_1 p238 q238
             obtain rfl:ad232 = ad238:=(by injection e238)
             replace hx238_0:=qy HB hx238_0
             replace hx238_1:=qy HB hx238_1
             have HR238_0:=zA hi238_0
             have HC238_0:=zA hl238_0
             clear hi238_0 hl238_0
             have HR238_1:=zA hi238_1
             have HC238_1:=zA hl238_1
             clear hi238_1 hl238_1
             replace p238:=eq_true p238
             replace q238:=eq_true q238
             have ea_:=Option.some.inj (hx237_0.symm.trans hx238_0)
             injection ea_ with ea_ en_ ec_
             subst ea_
             subst ec_
             clear en_
             have ea_:=Option.some.inj (hx237_1.symm.trans hx238_1)
             injection ea_ with ea_ en_ ec_
             subst ea_
             subst ec_
             clear en_
             have p239:0 ≤ (x6_2:Int):=qd
             have q239:x6_2 < (((rd_T93 l0_1 x4_1).f1).length:Int):=qd
             obtain ⟨ad239,A239_1,c239_1,e239,hx239_0,hx239_1,hl239_1,hi239_1⟩:=at_T95 HR238_1.out x6_2 p239 q239
             cases e239
             replace hx239_0:=qy HB hx239_0
             replace hx239_1:=qy HB hx239_1
             have HR239_1:=zA hi239_1
             have HC239_1:=zA hl239_1
             clear hi239_1 hl239_1
             replace p239:=eq_true p239
             replace q239:=eq_true q239
             try go_wp2_with (first|((with_reducible refine zV (N:=7) rfl ?_);refine bq 7 (cs:=#[.int .i64 0,.slice none 0 0]) (t:=95) ?_;intro gb240 hg w36 hbox hb;replace HO_232000:=zA (Kd.R_below (qR HO_232000) hb);replace HO_232001:=zA (Kd.R_below (Kd.R_elderB (qR HO_232001) gb240 (Nat.le_of_eq hg.symm)) hb);replace HO_237000:=zA (Kd.R_below (qR HO_237000) hb);replace HO_237001:=zA (Kd.S_below (Kd.S_elderB (qS HO_237001) gb240 (Nat.le_of_eq hg.symm)) hb);have BK240:=zA (hbox);have GW240:=zA (qg hg);have GE240:=zA (qg hg);replace HB:=zA (zH qb hb);have NB226_240:=zA ((by rw [hg];exact Nat.ne_of_lt (blk_lt (g:=gb226) (o:=.cells #[.slice A0_0 l0_0.length c0_0,.slice (some ad232) l0_1.length c0_1] 44 (0,0)) (qk BK226)):gb226 ≠ gb240));have NB240_226:=zA ((by rw [hg];exact Nat.ne_of_gt (blk_lt (g:=gb226) (o:=.cells #[.slice A0_0 l0_0.length c0_0,.slice (some ad232) l0_1.length c0_1] 44 (0,0)) (qk BK226)):gb240 ≠ gb226));replace BK226:=qK BK226 hb;have NB227_240:=zA ((by rw [hg];exact Nat.ne_of_lt (blk_lt (g:=gb227) (o:=.cells #[.slice none 0 0,.slice none 0 0] 44 (0,0)) (qk BK227)):gb227 ≠ gb240));have NB240_227:=zA ((by rw [hg];exact Nat.ne_of_gt (blk_lt (g:=gb227) (o:=.cells #[.slice none 0 0,.slice none 0 0] 44 (0,0)) (qk BK227)):gb240 ≠ gb227));replace BK227:=qK BK227 hb;have NB231_240:=zA ((by rw [hg];exact Nat.ne_of_lt (blk_lt (g:=gb231) (o:=.cells #[.slice Ao8 y228.length co8,u232001] 44 (0,0)) (qk BK231)):gb231 ≠ gb240));have NB240_231:=zA ((by rw [hg];exact Nat.ne_of_gt (blk_lt (g:=gb231) (o:=.cells #[.slice Ao8 y228.length co8,u232001] 44 (0,0)) (qk BK231)):gb240 ≠ gb231));replace BK231:=qK BK231 hb;have NB236_240:=zA ((by rw [hg];exact Nat.ne_of_lt (blk_lt (g:=gb236) (o:=.cells #[.slice Ao20 t233.length co20,u237001] 93 (0,0)) (qk BK236)):gb236 ≠ gb240));have NB240_236:=zA ((by rw [hg];exact Nat.ne_of_gt (blk_lt (g:=gb236) (o:=.cells #[.slice Ao20 t233.length co20,u237001] 93 (0,0)) (qk BK236)):gb240 ≠ gb236));replace BK236:=qK BK236 hb;clear hb hbox hg;have hnb37:=NB240_226.out;have hnc37:=NB226_240.out;have hnb38:=NB240_227.out;have hnc38:=NB227_240.out;have hnb39:=NB240_231.out;have hnc39:=NB231_240.out;have hnb40:=NB240_236.out;have hnc40:=NB236_240.out;have hcz41_0:=qx BK240 0;have hcz41_1:=qx BK240 1;have hfz41_0:=zJ BK240.out 0;have hfz41_1:=zJ BK240.out 1))
             have n0_:Aside0 (Kd.R k86 86 ((w36.setCell ⟨gb240,0,none⟩ (.int .i64 ((rd_T95 ((rd_T93 l0_1 x4_1).f1) x6_2).f0))).setCell ⟨gb240,1,none⟩ (.slice A239_1 ((rd_T95 ((rd_T93 l0_1 x4_1).f1) x6_2).f1).length c239_1)) w.heap.size (fun _=>True) (.slice Ao8 y228.length co8) y228):=⟨by (with_reducible repeat (first|apply Kd.R_alloc|apply Kd.R_drewN|apply Kd.R_drew));exact Kd.R_mono (Kd.R_far (p:=⟨gb240,1,none⟩) (Kd.R_far (p:=⟨gb240,0,none⟩) (Kd.R_types HO_232000.out BK240.out (by decide)) (fun _ hk=>hk.2) (.int .i64 ((rd_T95 ((rd_T93 l0_1 x4_1).f1) x6_2).f0))) (fun _ hk=>hk.2) (.slice A239_1 ((rd_T95 ((rd_T93 l0_1 x4_1).f1) x6_2).f1).length c239_1)) (fun _ hk=>trivial)⟩
             have n1_:Aside0 (Kd.R k93 93 ((w36.setCell ⟨gb240,0,none⟩ (.int .i64 ((rd_T95 ((rd_T93 l0_1 x4_1).f1) x6_2).f0))).setCell ⟨gb240,1,none⟩ (.slice A239_1 ((rd_T95 ((rd_T93 l0_1 x4_1).f1) x6_2).f1).length c239_1)) w.heap.size (fun k_=>some k_ ≠ (.slice Ao20 t233.length co20:Value).ownBlock∧some k_ ≠ (u237001:Value).ownBlock∧k_ ≠ gb236∧k_ ≠ gb240) u232001 x232001_1):=⟨by (with_reducible repeat (first|apply Kd.R_alloc|apply Kd.R_drewN|apply Kd.R_drew));exact Kd.R_mono (Kd.R_far (p:=⟨gb240,1,none⟩) (Kd.R_far (p:=⟨gb240,0,none⟩) (Kd.R_mono HO_232001.out (fun k_ hk=>(⟨hk,hk.2⟩:_∧k_ ≠ gb240))) (fun _ hk=>hk.2) (.int .i64 ((rd_T95 ((rd_T93 l0_1 x4_1).f1) x6_2).f0))) (fun _ hk=>hk.2) (.slice A239_1 ((rd_T95 ((rd_T93 l0_1 x4_1).f1) x6_2).f1).length c239_1)) (fun _ hk=>⟨hk.1.1.1,⟨hk.1.1.2.1,⟨hk.1.1.2.2,hk.1.2⟩⟩⟩)⟩
             have n2_:Aside0 (Kd.R k65 65 ((w36.setCell ⟨gb240,0,none⟩ (.int .i64 ((rd_T95 ((rd_T93 l0_1 x4_1).f1) x6_2).f0))).setCell ⟨gb240,1,none⟩ (.slice A239_1 ((rd_T95 ((rd_T93 l0_1 x4_1).f1) x6_2).f1).length c239_1)) w.heap.size (fun _=>True) (.slice Ao20 t233.length co20) t233):=⟨by (with_reducible repeat (first|apply Kd.R_alloc|apply Kd.R_drewN|apply Kd.R_drew));exact Kd.R_mono (Kd.R_far (p:=⟨gb240,1,none⟩) (Kd.R_far (p:=⟨gb240,0,none⟩) (Kd.R_types HO_237000.out BK240.out (by decide)) (fun _ hk=>hk.2) (.int .i64 ((rd_T95 ((rd_T93 l0_1 x4_1).f1) x6_2).f0))) (fun _ hk=>hk.2) (.slice A239_1 ((rd_T95 ((rd_T93 l0_1 x4_1).f1) x6_2).f1).length c239_1)) (fun _ hk=>trivial)⟩
             have n3_:Aside0 (Kd.S k95 95 ((w36.setCell ⟨gb240,0,none⟩ (.int .i64 ((rd_T95 ((rd_T93 l0_1 x4_1).f1) x6_2).f0))).setCell ⟨gb240,1,none⟩ (.slice A239_1 ((rd_T95 ((rd_T93 l0_1 x4_1).f1) x6_2).f1).length c239_1)) w.heap.size (fun k_=>some k_ ≠ (.slice Ao20 t233.length co20:Value).ownBlock∧k_ ≠ gb240) u237001 x237001_2):=⟨by (with_reducible repeat (first|apply Kd.S_alloc|apply Kd.S_drewN|apply Kd.S_drew));exact Kd.S_mono (Kd.S_far (p:=⟨gb240,1,none⟩) (Kd.S_far (p:=⟨gb240,0,none⟩) (Kd.S_mono HO_237001.out (fun k_ hk=>(⟨hk,hk.2⟩:_∧k_ ≠ gb240))) (fun _ hk=>hk.2) (.int .i64 ((rd_T95 ((rd_T93 l0_1 x4_1).f1) x6_2).f0))) (fun _ hk=>hk.2) (.slice A239_1 ((rd_T95 ((rd_T93 l0_1 x4_1).f1) x6_2).f1).length c239_1)) (fun _ hk=>⟨hk.1.1,hk.1.2⟩)⟩
             have n4_:Aside0 (((w36.setCell ⟨gb240,0,none⟩ (.int .i64 ((rd_T95 ((rd_T93 l0_1 x4_1).f1) x6_2).f0))).setCell ⟨gb240,1,none⟩ (.slice A239_1 ((rd_T95 ((rd_T93 l0_1 x4_1).f1) x6_2).f1).length c239_1)).heap[gb226]? = some (.cells #[.slice A0_0 l0_0.length c0_0,.slice (some ad232) l0_1.length c0_1] 44 (0,0))):=⟨by (with_reducible repeat (first|refine zL ?_ _|refine zM ?_|refine zK ?_ _));refine blk_far ?_ NB226_240.out _;(with_reducible repeat (first|refine zL ?_ _|refine zM ?_|refine zK ?_ _));refine blk_far ?_ NB226_240.out _;(with_reducible repeat (first|refine zL ?_ _|refine zM ?_|refine zK ?_ _));exact BK226.out⟩
             have n5_:Aside0 (((w36.setCell ⟨gb240,0,none⟩ (.int .i64 ((rd_T95 ((rd_T93 l0_1 x4_1).f1) x6_2).f0))).setCell ⟨gb240,1,none⟩ (.slice A239_1 ((rd_T95 ((rd_T93 l0_1 x4_1).f1) x6_2).f1).length c239_1)).heap[gb227]? = some (.cells #[.slice none 0 0,.slice none 0 0] 44 (0,0))):=⟨by (with_reducible repeat (first|refine zL ?_ _|refine zM ?_|refine zK ?_ _));refine blk_far ?_ NB227_240.out _;(with_reducible repeat (first|refine zL ?_ _|refine zM ?_|refine zK ?_ _));refine blk_far ?_ NB227_240.out _;(with_reducible repeat (first|refine zL ?_ _|refine zM ?_|refine zK ?_ _));exact BK227.out⟩
             have n6_:Aside0 (((w36.setCell ⟨gb240,0,none⟩ (.int .i64 ((rd_T95 ((rd_T93 l0_1 x4_1).f1) x6_2).f0))).setCell ⟨gb240,1,none⟩ (.slice A239_1 ((rd_T95 ((rd_T93 l0_1 x4_1).f1) x6_2).f1).length c239_1)).heap[gb231]? = some (.cells #[.slice Ao8 y228.length co8,u232001] 44 (0,0))):=⟨by (with_reducible repeat (first|refine zL ?_ _|refine zM ?_|refine zK ?_ _));refine blk_far ?_ NB231_240.out _;(with_reducible repeat (first|refine zL ?_ _|refine zM ?_|refine zK ?_ _));refine blk_far ?_ NB231_240.out _;(with_reducible repeat (first|refine zL ?_ _|refine zM ?_|refine zK ?_ _));exact BK231.out⟩
             have n7_:Aside0 (((w36.setCell ⟨gb240,0,none⟩ (.int .i64 ((rd_T95 ((rd_T93 l0_1 x4_1).f1) x6_2).f0))).setCell ⟨gb240,1,none⟩ (.slice A239_1 ((rd_T95 ((rd_T93 l0_1 x4_1).f1) x6_2).f1).length c239_1)).heap[gb236]? = some (.cells #[.slice Ao20 t233.length co20,u237001] 93 (0,0))):=⟨by (with_reducible repeat (first|refine zL ?_ _|refine zM ?_|refine zK ?_ _));refine blk_far ?_ NB236_240.out _;(with_reducible repeat (first|refine zL ?_ _|refine zM ?_|refine zK ?_ _));refine blk_far ?_ NB236_240.out _;(with_reducible repeat (first|refine zL ?_ _|refine zM ?_|refine zK ?_ _));exact BK236.out⟩
             have n8_:Aside0 (((w36.setCell ⟨gb240,0,none⟩ (.int .i64 ((rd_T95 ((rd_T93 l0_1 x4_1).f1) x6_2).f0))).setCell ⟨gb240,1,none⟩ (.slice A239_1 ((rd_T95 ((rd_T93 l0_1 x4_1).f1) x6_2).f1).length c239_1)).heap[gb240]? = some (.cells #[.int .i64 ((rd_T95 ((rd_T93 l0_1 x4_1).f1) x6_2).f0),.slice A239_1 ((rd_T95 ((rd_T93 l0_1 x4_1).f1) x6_2).f1).length c239_1] 95 (0,0))):=⟨by (with_reducible repeat (first|refine zL ?_ _|refine zM ?_|refine zK ?_ _));refine zO (cs:=#[.int .i64 ((rd_T95 ((rd_T93 l0_1 x4_1).f1) x6_2).f0),.slice none 0 0]) ?_ 1 _ rfl;(with_reducible repeat (first|refine zL ?_ _|refine zM ?_|refine zK ?_ _));refine zO (cs:=#[.int .i64 0,.slice none 0 0]) ?_ 0 _ rfl;(with_reducible repeat (first|refine zL ?_ _|refine zM ?_|refine zK ?_ _));exact BK240.out⟩
             have n9_:Aside0 (Below w.heap.size w ((w36.setCell ⟨gb240,0,none⟩ (.int .i64 ((rd_T95 ((rd_T93 l0_1 x4_1).f1) x6_2).f0))).setCell ⟨gb240,1,none⟩ (.slice A239_1 ((rd_T95 ((rd_T93 l0_1 x4_1).f1) x6_2).f1).length c239_1))):=⟨qb⟩
             (try clear HO_232000)
             (try clear HO_232001)
             (try clear HO_237000)
             (try clear HO_237001)
             (try clear BK226)
             (try clear BK227)
             (try clear BK231)
             (try clear BK236)
             (try clear BK240)
             (try clear HB)
             generalize ((w36.setCell ⟨gb240,0,none⟩ (.int .i64 ((rd_T95 ((rd_T93 l0_1 x4_1).f1) x6_2).f0))).setCell ⟨gb240,1,none⟩ (.slice A239_1 ((rd_T95 ((rd_T93 l0_1 x4_1).f1) x6_2).f1).length c239_1)) = w42 at n0_ n1_ n2_ n3_ n4_ n5_ n6_ n7_ n8_ n9_ ⊢
             have HO_232000:=n0_
             have HO_232001:=n1_
             have HO_237000:=n2_
             have HO_237001:=n3_
             have BK226:=n4_
             have BK227:=n5_
             have BK231:=n6_
             have BK236:=n7_
             have BK240:=n8_
             have HB:=n9_
             clear n0_ n1_ n2_ n3_ n4_ n5_ n6_ n7_ n8_ n9_
             replace HO_232000:=zA (Kd.R_drew HO_232000.out)
             replace HO_232001:=zA (Kd.R_drew HO_232001.out)
             replace HO_237000:=zA (Kd.R_drew HO_237000.out)
             replace HO_237001:=zA (Kd.S_drew HO_237001.out)
             replace BK226:=zA (zM BK226.out)
             replace BK227:=zA (zM BK227.out)
             replace BK231:=zA (zM BK231.out)
             replace BK236:=zA (zM BK236.out)
             replace BK240:=zA (zM BK240.out)
             replace HB:=zA (zE HB.out)
             refine start_ (n:=12) (S:=fun w'=>w'.cell? ⟨gb236,0,none⟩ = some (.slice Ao20 t233.length co20)∧w'.cell? ⟨gb236,1,none⟩ = some (u237001)∧w'.cell? ⟨gb240,0,none⟩ = some (.int .i64 ((rd_T95 ((rd_T93 l0_1 x4_1).f1) x6_2).f0))∧w'.cell? ⟨gb240,1,none⟩ = some (.slice A239_1 ((rd_T95 ((rd_T93 l0_1 x4_1).f1) x6_2).f1).length c239_1)) (ds:=[11]) #[false,false,false,false,false,false,false,false,false,false,false,false] (by kernel_rfl) rfl rfl ⟨(zI BK236.out 0).trans rfl,(zI BK236.out 1).trans rfl,(zI BK240.out 0).trans rfl,(zI BK240.out 1).trans rfl⟩ (fun hHeld=>?_);refine with_tabW foretelllaw_models.tab10 foretelllaw_models.bits10 (fun HT_ HW_=>?_)
             generalize w42.drew = w43 at HO_232000 HO_232001 HO_237000 HO_237001 BK226 BK227 BK231 BK236 BK240 HB hHeld ⊢
             refine pq 0 (some 47) HT_ ?_
             refine pq 2 (some 49) HT_ ?_
             refine pq 4 (some 51) HT_ ?_
             refine tq 1 (some 48) HT_ HW_ hHeld ?_
             refine tq 3 (some 50) HT_ HW_ hHeld ?_
             refine tq 5 (some 52) HT_ HW_ hHeld ?_
             refine oq 6 (some 53) HT_ (fun K hK=>?_)
             refine gq Tryd.func9 #[.slice A239_1 ((rd_T95 ((rd_T93 l0_1 x4_1).f1) x6_2).f1).length c239_1] ?_
             with_reducible refine (foretelllaw_ops.calls _ _ ((rd_T95 ((rd_T93 l0_1 x4_1).f1) x6_2).f1) t241 _ (qc HR239_1) HC239_1.out A30.out).mono ?_
             rintro e w44 ⟨v242,rfl,ho0,hb⟩
             refine ⟨_,rfl,?_⟩
             replace HO_232000:=zA (Kd.R_below (qR HO_232000) hb)
             replace HO_232001:=zA (Kd.R_elder' (qR HO_232001) (Kd.R_base ho0) hb)
             replace HO_237001:=zA (Kd.S_elder' (qS HO_237001) (Kd.R_base ho0) hb)
             have HO243:=zA (Kd.R_lower (Kd.R_new' ho0 (Kd.R_lt (qR HO_237000))) qs)
             replace HO_237000:=zA (Kd.R_elder' (qR HO_237000) (Kd.R_base ho0) hb)
             replace BK226:=qK BK226 hb
             replace BK227:=qK BK227 hb
             replace BK231:=qK BK231 hb
             replace BK236:=qK BK236 hb
             replace BK240:=zA (zN (g:=gb240) (o:=.cells #[.int .i64 ((rd_T95 ((rd_T93 l0_1 x4_1).f1) x6_2).f0),.slice A239_1 ((rd_T95 ((rd_T93 l0_1 x4_1).f1) x6_2).f1).length c239_1] 95 (0,0)) (qk BK240) hb)
             replace HB:=zA (zH qb hb)
             (try clear hb)
             (try clear hb2)
             (try clear hk)
             (try clear hi)
             (try clear ho0)
             obtain ⟨Ao45,co45,eo45⟩:=Kd.R_slice HO243.out
             (first|subst eo45|(injection eo45 with f1_ f2_ f3_;have f4_:=f1_.symm;have f5_:=f3_.symm;clear f1_ f2_ f3_;subst f4_;subst f5_))
             refine hK.out _ _ ⟨(zI BK236.out 0).trans rfl,(zI BK236.out 1).trans rfl,(zI BK240.out 0).trans rfl,(zI BK240.out 1).trans rfl⟩ (fun hHeld=>?_)
             clear hK K
             refine norm_ (a':=?_) ?_ ?_
             rotate_left
             ·show Act.put _ (some 53) _ = _
              simp only [Act.put,zX,zY,zZ,i64_w,i32_w]
              rfl
             refine pq 7 (some 54) HT_ ?_
             refine oq 8 (some 55) HT_ (fun K hK=>?_)
             refine value_ (w1:=?_) (v:=?_) (by rfl) rfl ?_ ?_
             rotate_left 2
             ·go_simp
              constructor
              ·rfl
              ·rfl
             refine hK.out _ _ ⟨(zI (zK BK236.out _) 0).trans rfl,(zI (zK BK236.out _) 1).trans rfl,(zI (zK BK240.out _) 0).trans rfl,(zI (zK BK240.out _) 1).trans rfl⟩ (fun hHeld=>?_)
             clear hK K
             refine norm_ (a':=?_) ?_ ?_
             rotate_left
             ·show Act.put _ (some 55) _ = _
              simp only [Act.put,zX,zY,zZ,i64_w,i32_w]
              rfl
             refine oq 9 (some 56) HT_ (fun K hK=>?_)
             refine Kd.S_append_step k95 (w0:=w) w.heap.size (by rfl) (.tmp 48) (.tmp 55) 91 95 (.agg #[(.int .i64 0),(.slice none 0 0)]) 32 rfl Tryd.underlying91 info95 rfl (by decide) (by omega) u237001 x237001_2 (⟨(rd_T95 ((rd_T93 l0_1 x4_1).f1) x6_2).f0,t241⟩:S95) [.int .i64 ((rd_T95 ((rd_T93 l0_1 x4_1).f1) x6_2).f0),.slice Ao45 t241.length co45] (fun k_=>some k_ ≠ (.slice Ao20 t233.length co20:Value).ownBlock∧k_ ≠ gb240) (fun k_=>some k_ = (.slice Ao45 t241.length co45:Value).ownBlock) rfl rfl ?aP (fun k_ hk_=>((Kd.R_mono (ok':=fun k_=>((fun k_=>some k_ ≠ (.slice Ao20 t233.length co20:Value).ownBlock∧k_ ≠ gb240)) k_∧some k_ ≠ (u237001:Value).ownBlock) (Kd.R_types (Kd.R_apart' (HO243.out) (Kd.S_typed HO_237001.out) (by decide)) BK240.out (by decide)) (fun k_ hk=>⟨⟨hk.1.1.2,hk.2⟩,hk.1.2⟩))).1 k_ hk_.symm) ?aF ?aO ?aB ?aS ?aL ?_
             (case aP=>exact k95_mkM _ _ _ (⟨(rd_T95 ((rd_T93 l0_1 x4_1).f1) x6_2).f0,t241⟩:S95) (Kd.R_mono (Kd.R_tight rfl (Kd.R_mono (ok':=fun k_=>((fun k_=>some k_ ≠ (.slice Ao20 t233.length co20:Value).ownBlock∧k_ ≠ gb240)) k_∧some k_ ≠ (u237001:Value).ownBlock) (Kd.R_types (Kd.R_apart' (HO243.out) (Kd.S_typed HO_237001.out) (by decide)) BK240.out (by decide)) (fun k_ hk=>⟨⟨hk.1.1.2,hk.2⟩,hk.1.2⟩))) (fun _ h_=>h_)))
             (case aB=>exact qb)
             (case aF=>exact (fun k_ hk=>⟨Kd.fresh' (Kd.R_lt (qR HO_237000)) k_ hk,Kd.freshB (g:=gb240) (o:=.cells #[.int .i64 ((rd_T95 ((rd_T93 l0_1 x4_1).f1) x6_2).f0),.slice A239_1 ((rd_T95 ((rd_T93 l0_1 x4_1).f1) x6_2).f1).length c239_1] 95 (0,0)) (qk BK240) k_ hk⟩))
             (case aO=>exact (by (with_reducible repeat (first|apply Kd.S_alloc|apply Kd.S_drewN|apply Kd.S_drew));exact Kd.S_mono HO_237001.out (fun k_ hk=>⟨⟨hk.1.1,hk.1.2⟩,fun e_=>hk.2 e_⟩)))
             (case aS=>exact qs)
             (case aL=>have:=LMc31.out;omega)
             intro v245 w46 ho hb hg hat
             rw [← Ny244.out] at ho
             replace HO_232000:=zA (Kd.R_over' (qR HO_232000) (Kd.S_typed (qS HO_237001)) (by decide) hg)
             replace HO_232001:=zA (Kd.R_after (ok:=(fun k_=>some k_ ≠ (.slice Ao20 t233.length co20:Value).ownBlock∧some k_ ≠ (.slice Ao45 t241.length co45:Value).ownBlock∧k_ ≠ gb236∧k_ ≠ gb240)) (by (with_reducible repeat (first|apply Kd.R_alloc|apply Kd.R_drewN|apply Kd.R_drew));exact Kd.R_mono HO_232001.out (fun _ hk=>⟨⟨hk.1.1,⟨hk.2,⟨hk.1.2.2.1,hk.1.2.2.2⟩⟩⟩,hk.1.2.1⟩)) hg hat)
             replace HO_237000:=zA (Kd.R_over' (qR HO_237000) (Kd.S_typed (qS HO_237001)) (by decide) hg)
             replace BK226:=zA (blk_grown (g:=gb226) (o:=.cells #[.slice A0_0 l0_0.length c0_0,.slice (some ad232) l0_1.length c0_1] 44 (0,0)) (qk BK226) hg (Kd.S_ne HO_237001.out BK226.out (by decide)))
             replace BK227:=zA (blk_grown (g:=gb227) (o:=.cells #[.slice none 0 0,.slice none 0 0] 44 (0,0)) (qk BK227) hg (Kd.S_ne HO_237001.out BK227.out (by decide)))
             replace BK231:=zA (blk_grown (g:=gb231) (o:=.cells #[.slice Ao8 y228.length co8,u232001] 44 (0,0)) (qk BK231) hg (Kd.S_ne HO_237001.out BK231.out (by decide)))
             replace BK236:=zA (blk_grown (g:=gb236) (o:=.cells #[.slice Ao20 t233.length co20,u237001] 93 (0,0)) (qk BK236) hg (Kd.S_ne HO_237001.out BK236.out (by decide)))
             replace BK240:=zA (blk_grown (g:=gb240) (o:=.cells #[.int .i64 ((rd_T95 ((rd_T93 l0_1 x4_1).f1) x6_2).f0),.slice A239_1 ((rd_T95 ((rd_T93 l0_1 x4_1).f1) x6_2).f1).length c239_1] 95 (0,0)) (qk BK240) hg (Kd.S_away HO_237001.out (fun _ hk=>hk.1.2)))
             replace HB:=zA (hb)
             have HO246:=zA (ho)
             clear HO_237001 HO243
             clear ho hb hg hat
             obtain ⟨Ao47,co47,eo47⟩:=Kd.S_slice HO246.out
             (first|subst eo47|(injection eo47 with f1_ f2_ f3_;have f4_:=f1_.symm;have f5_:=f3_.symm;clear f1_ f2_ f3_;subst f4_;subst f5_))
             refine hK.out _ _ ⟨(zI BK236.out 0).trans rfl,(zI BK236.out 1).trans rfl,(zI BK240.out 0).trans rfl,(zI BK240.out 1).trans rfl⟩ (fun hHeld=>?_)
             clear hK K
             refine norm_ (a':=?_) ?_ ?_
             rotate_left
             ·show Act.put _ (some 56) _ = _
              simp only [Act.put,zX,zY,zZ,i64_w,i32_w]
              rfl
             refine pq 10 (some 57) HT_ ?_
             refine last_ (i:=11) (N:=none) #[true,true,true,true,true,true,true,true,true,true,true,true] rfl rfl (one_of HT_.out (by kernel_rfl)) (by decide) (fun K hK=>?_)
             have hs48:w46.cell? ⟨gb236,1,none⟩ = some (u237001):=(zI BK236.out 1).trans rfl
             have hfs48:=zJ BK236.out 1
             have hns48_0:=NB226_236.out
             have hns48_1:=NB227_236.out
             have hns48_2:=NB231_236.out
             have hns48_4:=NB240_236.out
             have hms48_0:=NB236_226.out
             have hms48_1:=NB236_227.out
             have hms48_2:=NB236_231.out
             have hms48_4:=NB236_240.out
             refine skip_ (w1:=?_) (by rfl) rfl ?_ ?_
             rotate_left
             ·go_simp
              rfl
             refine hK.out _ _ ?_
             clear hK K
             refine done_ (done_of HT_.out (by kernel_rfl)) ?_
             try go_wp2
             go_roundg k2
             case measure=>have:=HK1.out;have:=HK2.out;omega
             case rel=>exact ⟨(wrap64 (x6_2 + 1)),(y244),(.slice Ao47 y244.length co47),qr,H',⟨qp HK1 HK2⟩,⟨by (with_reducible repeat (first|apply Kd.R_alloc|apply Kd.R_drewN|apply Kd.R_drew));exact Kd.R_mono (Kd.R_far (p:=⟨gb236,1,none⟩) (Kd.R_types HO_232000.out BK236.out (by decide)) (fun _ hk=>hk.2) (.slice Ao47 y244.length co47)) (fun _ hk=>trivial)⟩,⟨by (with_reducible repeat (first|apply Kd.R_alloc|apply Kd.R_drewN|apply Kd.R_drew));exact Kd.R_mono (Kd.R_far (p:=⟨gb236,1,none⟩) (Kd.R_mono HO_232001.out (fun k_ hk=>(⟨hk,hk.1.2.2.1⟩:_∧k_ ≠ gb236))) (fun _ hk=>hk.2) (.slice Ao47 y244.length co47)) (fun _ hk=>⟨hk.1.1.1,⟨hk.1.2,hk.1.1.2.2.1⟩⟩)⟩,⟨by (with_reducible repeat (first|apply Kd.R_alloc|apply Kd.R_drewN|apply Kd.R_drew));exact Kd.R_mono (Kd.R_far (p:=⟨gb236,1,none⟩) (Kd.R_types HO_237000.out BK236.out (by decide)) (fun _ hk=>hk.2) (.slice Ao47 y244.length co47)) (fun _ hk=>trivial)⟩,⟨by (with_reducible repeat (first|apply Kd.S_alloc|apply Kd.S_drewN|apply Kd.S_drew));exact Kd.S_mono (Kd.S_far (p:=⟨gb236,1,none⟩) (Kd.S_types HO246.out BK236.out (by decide)) (fun _ hk=>hk.2) (.slice Ao47 y244.length co47)) (fun _ hk=>hk.1.1)⟩,⟨by (with_reducible repeat (first|refine zL ?_ _|refine zM ?_|refine zK ?_ _));refine blk_far ?_ NB226_236.out _;(with_reducible repeat (first|refine zL ?_ _|refine zM ?_|refine zK ?_ _));exact BK226.out⟩,⟨by (with_reducible repeat (first|refine zL ?_ _|refine zM ?_|refine zK ?_ _));refine blk_far ?_ NB227_236.out _;(with_reducible repeat (first|refine zL ?_ _|refine zM ?_|refine zK ?_ _));exact BK227.out⟩,⟨by (with_reducible repeat (first|refine zL ?_ _|refine zM ?_|refine zK ?_ _));refine blk_far ?_ NB231_236.out _;(with_reducible repeat (first|refine zL ?_ _|refine zM ?_|refine zK ?_ _));exact BK231.out⟩,⟨by (with_reducible repeat (first|refine zL ?_ _|refine zM ?_|refine zK ?_ _));refine zO (cs:=#[.slice Ao20 t233.length co20,u237001]) ?_ 1 _ rfl;(with_reducible repeat (first|refine zL ?_ _|refine zM ?_|refine zK ?_ _));exact BK236.out⟩,⟨qb⟩⟩
            ·rw [if_neg c31] at H
             exact absurd H (by simp)
           ·exact absurd H (by simp)
          ·by_cases c49:x232001_1.length < 2932031007402
           ·rw [if_pos c49] at H
            have LMc49:=zA c49
            clear c49
            obtain ⟨y247,hy247⟩:∃ y_:List (S93),y_ = (x232001_1 ++ [(⟨t233,x237001_2⟩:S93)]):=⟨_,rfl⟩
            replace H:(foretelllaw_models.l0 k2 (wrap64 (x4_1 + 1)) l0_0 l0_1 y228 y247) = some (r1,r2):=by first|(rw [hy247];with_reducible exact H)|(have H2_:=(Option.bind_some _ _).symm.trans H;rw [hy247];with_reducible exact H2_)|(have H2_:=(Option.bind_some _ _).symm.trans H;with_reducible exact H2_)|with_reducible exact H|(rw [hy247];exact H)|exact H
            have Ny247:=zA hy247
            clear hy247
            have H':=zA H
            clear H
            have hnb50:=NB226_227.out
            have hnc50:=NB227_226.out
            have hnb51:=NB226_231.out
            have hnc51:=NB231_226.out
            have hnb52:=NB226_236.out
            have hnc52:=NB236_226.out
            have hcz53_0:=qx BK226 0
            have hcz53_1:=qx BK226 1
            have hfz53_0:=zJ BK226.out 0
            have hfz53_1:=zJ BK226.out 1
            have p237:0 ≤ (x4_1:Int):=qd
            have q237:x4_1 < (l0_1.length:Int):=qd
            obtain ⟨ad237,A237_0,c237_0,A237_1,c237_1,e237,hx237_0,hx237_1,hl237_0,hi237_0,hl237_1,hi237_1⟩:=at_T93 HR0_1.out x4_1 p237 q237
            obtain rfl:ad232 = ad237:=(by injection e237)
            replace hx237_0:=qy HB hx237_0
            replace hx237_1:=qy HB hx237_1
            have HR237_0:=zA hi237_0
            have HC237_0:=zA hl237_0
            clear hi237_0 hl237_0
            have HR237_1:=zA hi237_1
            have HC237_1:=zA hl237_1
            clear hi237_1 hl237_1
            replace p237:=eq_true p237
            replace q237:=eq_true q237
            have hnb54:=NB231_227.out
            have hnc54:=NB227_231.out
            have hnb55:=NB231_236.out
            have hnc55:=NB236_231.out
            have hcz56_0:=qx BK231 0
            have hcz56_1:=qx BK231 1
            have hfz56_0:=zJ BK231.out 0
            have hfz56_1:=zJ BK231.out 1
            have hnb57:=NB236_227.out
            have hnc57:=NB227_236.out
            have hcz58_0:=qx BK236 0
            have hcz58_1:=qx BK236 1
            have hfz58_0:=zJ BK236.out 0
            have hfz58_1:=zJ BK236.out 1
            obtain ⟨Ao60,co60,eo60⟩:=Kd.S_slice HO_237001.out
            subst eo60
            go_wp2_with (first|((with_reducible refine gate_builtin (b:=.append) (xs:=#[.tmp 59,.tmp 61]) rfl ?_);at_builtin;refine Kd.R_append k93 (w0:=w) w.heap.size rfl (.tmp 59) (.tmp 61) 42 93 (.agg #[(.slice none 0 0),(.slice none 0 0)]) 48 rfl Tryd.underlying42 info93 rfl (by decide) (by omega) u232001 x232001_1 (⟨t233,x237001_2⟩:S93) [.slice Ao20 t233.length co20,.slice Ao60 x237001_2.length co60] (fun k_=>k_ ≠ gb236) (fun k_=>((fun k_=>k_ ≠ gb236)) k_∧some k_ ≠ (u232001:Value).ownBlock) rfl rfl (k93_mkM _ _ _ (⟨t233,x237001_2⟩:S93) (Kd.R_mono (Kd.R_types (Kd.R_apart' (HO_237000.out) (Kd.R_typed HO_232001.out) (by decide)) BK236.out (by decide)) (fun k_ hk=>⟨hk.2,hk.1.2⟩)) (Kd.R_mono (Kd.R_types (Kd.R_apart' ((Kd.S_R HO_237001.out)) (Kd.R_typed HO_232001.out) (by decide)) BK236.out (by decide)) (fun k_ hk=>⟨hk.2,hk.1.2⟩))) (fun _ hk=>hk) (fun k_ hk=>Kd.freshB (g:=gb236) (o:=.cells #[.slice Ao20 t233.length co20,.slice Ao60 x237001_2.length co60] 93 (0,0)) (qk BK236) k_ hk) ?aO qb qs (qo LMc49) ?_;(case aO=>exact (by (with_reducible repeat (first|apply Kd.R_alloc|apply Kd.R_drewN|apply Kd.R_drew));exact Kd.R_mono HO_232001.out (fun _ hk=>hk.2.2)));intro v248 w59 ho hb hg hat;rw [← Ny247.out] at ho;replace HO_232000:=zA (Kd.R_over' (qR HO_232000) (Kd.R_typed (qR HO_232001)) (by decide) hg);replace BK226:=zA (blk_grown (g:=gb226) (o:=.cells #[.slice A0_0 l0_0.length c0_0,.slice (some ad232) l0_1.length c0_1] 44 (0,0)) (qk BK226) hg (Kd.R_ne HO_232001.out BK226.out (by decide)));replace BK227:=zA (blk_grown (g:=gb227) (o:=.cells #[.slice none 0 0,.slice none 0 0] 44 (0,0)) (qk BK227) hg (Kd.R_ne HO_232001.out BK227.out (by decide)));replace BK231:=zA (blk_grown (g:=gb231) (o:=.cells #[.slice Ao8 y228.length co8,u232001] 44 (0,0)) (qk BK231) hg (Kd.R_ne HO_232001.out BK231.out (by decide)));replace BK236:=zA (blk_grown (g:=gb236) (o:=.cells #[.slice Ao20 t233.length co20,.slice Ao60 x237001_2.length co60] 93 (0,0)) (qk BK236) hg (Kd.R_away HO_232001.out (fun _ hk=>hk.2.2)));replace HB:=zA (hb);have HO249:=zA (ho);clear HO_232001 HO_237000 HO_237001;clear ho hb hg hat;obtain ⟨Ao61,co61,eo61⟩:=Kd.R_slice HO249.out;subst eo61;have hcz62_0:=qx BK231 0;have hcz62_1:=qx BK231 1;have hfz62_0:=zJ BK231.out 0;have hfz62_1:=zJ BK231.out 1))
            go_roundg k2
            case measure=>have:=HK1.out;have:=HK2.out;omega
            case rel=>exact ⟨(wrap64 (x4_1 + 1)),(y247),(.slice Ao61 y247.length co61),qr,H',⟨qp HK1 HK2⟩,⟨by (with_reducible repeat (first|apply Kd.R_alloc|apply Kd.R_drewN|apply Kd.R_drew));exact Kd.R_mono (Kd.R_far (p:=⟨gb231,1,none⟩) (Kd.R_types HO_232000.out BK231.out (by decide)) (fun _ hk=>hk.2) (.slice Ao61 y247.length co61)) (fun _ hk=>trivial)⟩,⟨by (with_reducible repeat (first|apply Kd.R_alloc|apply Kd.R_drewN|apply Kd.R_drew));exact Kd.R_mono (Kd.R_far (p:=⟨gb231,1,none⟩) (Kd.R_types HO249.out BK231.out (by decide)) (fun _ hk=>hk.2) (.slice Ao61 y247.length co61)) (fun _ hk=>trivial)⟩,⟨by (with_reducible repeat (first|refine zL ?_ _|refine zM ?_|refine zK ?_ _));refine blk_far ?_ NB226_231.out _;(with_reducible repeat (first|refine zL ?_ _|refine zM ?_|refine zK ?_ _));exact BK226.out⟩,⟨by (with_reducible repeat (first|refine zL ?_ _|refine zM ?_|refine zK ?_ _));refine blk_far ?_ NB227_231.out _;(with_reducible repeat (first|refine zL ?_ _|refine zM ?_|refine zK ?_ _));exact BK227.out⟩,⟨by (with_reducible repeat (first|refine zL ?_ _|refine zM ?_|refine zK ?_ _));refine zO (cs:=#[.slice Ao8 y228.length co8,u232001]) ?_ 1 _ rfl;(with_reducible repeat (first|refine zL ?_ _|refine zM ?_|refine zK ?_ _));exact BK231.out⟩,⟨qb⟩⟩
           ·rw [if_neg c49] at H
            exact absurd H (by simp)
         ·exact absurd H (by simp)
        ·exact absurd H (by simp)
     ·exact absurd H (by simp)
    ·simp only [Option.some.injEq,Prod.mk.injEq] at H
     obtain ⟨rfl,rfl⟩:=H
     have hnb63:=NB226_227.out
     have hnc63:=NB227_226.out
     have hnb64:=NB226_231.out
     have hnc64:=NB231_226.out
     have hcz65_0:=qx BK226 0
     have hcz65_1:=qx BK226 1
     have hfz65_0:=zJ BK226.out 0
     have hfz65_1:=zJ BK226.out 1
     have hnb66:=NB231_227.out
     have hnc66:=NB227_231.out
     have hcz67_0:=qx BK231 0
     have hcz67_1:=qx BK231 1
     have hfz67_0:=zJ BK231.out 0
     have hfz67_1:=zJ BK231.out 1
     have hcz68_0:=qx BK227 0
     have hcz68_1:=qx BK227 1
     have hfz68_0:=zJ BK227.out 0
     have hfz68_1:=zJ BK227.out 1
     obtain ⟨Ao69,co69,eo69⟩:=Kd.R_slice HO_232001.out
     subst eo69
     go_wp2
     refine bodyPost_ret (results_cell_row rfl _ _ gb227 44 #[.slice Ao8 y228.length co8,.slice Ao69 x232001_1.length co69] (0,0) _ rfl (by (with_reducible repeat (first|refine zL ?_ _|refine zM ?_|refine zK ?_ _));refine zO (cs:=#[.slice Ao8 y228.length co8,.slice none 0 0]) ?_ 1 _ rfl;(with_reducible repeat (first|refine zL ?_ _|refine zM ?_|refine zK ?_ _));refine zO (cs:=#[.slice none 0 0,.slice none 0 0]) ?_ 0 _ rfl;(with_reducible repeat (first|refine zL ?_ _|refine zM ?_|refine zK ?_ _));exact BK227.out) Tryd.underlying44 rfl (by kernel_rfl)) rfl ?_
     exact ⟨_,_,qe,by (with_reducible repeat (first|apply Kd.R_alloc|apply Kd.R_drewN|apply Kd.R_drew));exact Kd.R_mono (Kd.R_far (p:=⟨gb227,1,none⟩) (Kd.R_far (p:=⟨gb227,0,none⟩) (Kd.R_types HO_232000.out BK227.out (by decide)) (fun _ hk=>hk.2) (.slice Ao8 y228.length co8)) (fun _ hk=>hk.2) (.slice Ao69 x232001_1.length co69)) (fun _ hk=>trivial),by (with_reducible repeat (first|apply Kd.R_alloc|apply Kd.R_drewN|apply Kd.R_drew));exact Kd.R_mono (Kd.R_far (p:=⟨gb227,1,none⟩) (Kd.R_far (p:=⟨gb227,0,none⟩) (Kd.R_types HO_232001.out BK227.out (by decide)) (fun _ hk=>hk.2) (.slice Ao8 y228.length co8)) (fun _ hk=>hk.2) (.slice Ao69 x232001_1.length co69)) (fun _ hk=>trivial),qb⟩
 ·rw [if_neg c2] at H
  exact absurd H (by simp)
end Go.Proofs.YthffpjkkmkjplaaDoor.S
namespace Go.Proofs.YthffpjkkmkjplaaDoor.S
open Go.Proofs.YthffpjkkmkjplaaDoor.Al
open Option renaming bind_eq_some_iff → zb
open Go.Proofs.YthffpjkkmkjplaaDoorW.PrintWords renaming below_step → zH, gate_callee → zU
open Go.Proofs.YthffpjkkmkjplaaDoor.Sq
open Go.RowKit Go.Proofs.YthffpjkkmkjplaaDoorW.PrintWords Go.Proofs.YthffpjkkmkjplaaDoorW.PrintLast Go.Proofs.YthffpjkkmkjplaaDoorW.PrintMore
attribute [local go_sem] max2_int min2_int max_two min_two max_three min_three max_four min_four
set_option linter.unusedVariables false
set_option linter.unusedSimpArgs false
def foretelllaw_terms.l0:Nat → List (List (S65)) → List (List (S65)) → Int → Option ((List (List (S65))))
 | 0,_,_,_=>none
 | k + 1,x0,x3,x4=>if x4 < (x0.length:Int) then (if 0 ≤ x4 then ((foretelllaw_ops.f (rd_L4 x0 x4)).bind fun t251=>(if x3.length < 5864062014805 then (foretelllaw_terms.l0 k x0 (x3 ++ [t251]) (wrap64 (x4 + 1))) else (none))) else (none)) else (some x3)
def foretelllaw_terms.f (k:Nat) (l0:List (List (S65))):Option ((List (List (S65)))):=foretelllaw_terms.l0 k l0 ([]:List (List (S65))) 0
theorem foretelllaw_terms.mono_l:∀ k,(∀ y0 y1 y2,LeO (foretelllaw_terms.l0 k y0 y1 y2) (foretelllaw_terms.l0 (k + 1) y0 y1 y2))
 | 0=>fun _ _ _ r h=>by simp [foretelllaw_terms.l0] at h
 | k + 1=>by
  have ih0:=foretelllaw_terms.mono_l k
  ·intro y0 y1 y2
   unfold foretelllaw_terms.l0
   exact qL
theorem foretelllaw_terms.mono:∀ a0 k,LeO (foretelllaw_terms.f k a0) (foretelllaw_terms.f (k + 1) a0):=by
 intro a0 k
 have ih0:=foretelllaw_terms.mono_l k
 unfold foretelllaw_terms.f
 exact qL
set_option maxHeartbeats 8000000 in
set_option maxRecDepth 100000 in
theorem foretelllaw_terms.calls (k:Nat) (A0:Option Addr) (c0:Nat) (l0:List (List (S65))) (r:List (List (S65))) (w:World) (hr0:Kd.C (Kd.slice 65 k65) w A0 l0.length l0) (hc0:l0.length ≤ c0) (h:foretelllaw_terms.f k l0 = some r) :
  Calls Tryd.prog 34 #[.slice A0 l0.length c0] w fun e w'=>∃ v0_:Value,e = .returned (v0_)∧Kd.S (Kd.slice 65 k65) 22 w' w.heap.size (fun _=>True) v0_ r∧Below w.heap.size w w':=by
 have HR0:=zA hr0
 have HC0:=zA hc0
 clear hr0 hc0
 have HB:=zA (Below.refl w.heap.size w)
 have H:(foretelllaw_terms.l0 k l0 ([]:List (List (S65))) 0) = some r:=h
 clear h
 have H':=zA H
 clear H
 go_enter Tryd.func34,Tryd.ntmps34
 go_wp2
 go_loopg [3,4] k (fun kq v3 v4 w'=>∃ (x3_1:List (List (S65))) (x4_1:Int),v4 = .int .i64 x4_1∧Aside0 (foretelllaw_terms.l0 kq l0 x3_1 x4_1 = some r)∧Aside0 (kq ≤ k)∧Aside0 (Kd.S (Kd.slice 65 k65) 22 w' w.heap.size (fun _=>True) v3 x3_1)∧Aside0 (Below w.heap.size w w'))
 case atStart=>exact ⟨(([]:List (List (S65)))),(0),qr,H',⟨Nat.le_refl _⟩,⟨by first|exact Kd.S_nil _ _ _ _ _|exact Kd.N_nil _ _ _ _ _|exact Kd.V_nil _ _ _ _ _|exact Kd.Q_nil _ _ _ _ _|exact Kd.R_nil _ _ _ _ _⟩,⟨qb⟩⟩
 case round =>
  clear H'
  obtain ⟨x3_1,x4_1,rfl,HA,HK1,HO_3,HB⟩:=hrel
  cases gk with
  | zero=>exact absurd HA.out (by simp [foretelllaw_terms.l0])
  | succ k1 =>
   have H:=HA.out
   clear HA
   simp only [foretelllaw_terms.l0] at H
   rcases qj H with ⟨c2b0,H⟩|⟨c2b0,H⟩
   ·rcases qj H with ⟨c3b0,H⟩|⟨c3,H⟩
    ·replace H:=zb.mp H
     obtain ⟨t251,A40,H⟩:=H
     replace H:(if x3_1.length < 5864062014805 then (foretelllaw_terms.l0 k1 l0 (x3_1 ++ [t251]) (wrap64 (x4_1 + 1))) else (none)) = some r:=H
     have A4:=zA A40
     clear A40
     by_cases c5:x3_1.length < 5864062014805
     ·rw [if_pos c5] at H
      have LMc5:=zA c5
      clear c5
      obtain ⟨y254,hy254⟩:∃ y_:List (List (S65)),y_ = (x3_1 ++ [t251]):=⟨_,rfl⟩
      replace H:(foretelllaw_terms.l0 k1 l0 y254 (wrap64 (x4_1 + 1))) = some r:=by first|(rw [hy254];with_reducible exact H)|(have H2_:=(Option.bind_some _ _).symm.trans H;rw [hy254];with_reducible exact H2_)|(have H2_:=(Option.bind_some _ _).symm.trans H;with_reducible exact H2_)|with_reducible exact H|(rw [hy254];exact H)|exact H
      have Ny254:=zA hy254
      clear hy254
      have H':=zA H
      clear H
      have p250:0 ≤ (x4_1:Int):=qd
      have q250:x4_1 < (l0.length:Int):=qd
      obtain ⟨ad250,A250_0,c250_0,e250,hx250_0,hl250_0,hi250_0⟩:=at_L4 HR0.out x4_1 p250 q250
      cases e250
      replace hx250_0:=qy HB hx250_0
      have HR250_0:=zA hi250_0
      have HC250_0:=zA hl250_0
      clear hi250_0 hl250_0
      replace p250:=eq_true p250
      replace q250:=eq_true q250
      go_wp2_with (first|((with_reducible refine zU (f:=9) rfl ?_);refine gL (some 16) Tryd.func9 #[.slice A250_0 (rd_L4 l0 x4_1).length c250_0] ?_;(with_reducible refine (foretelllaw_ops.calls _ _ (rd_L4 l0 x4_1) t251 _ (qc HR250_0) HC250_0.out A4.out).mono ?_);rintro e w6 ⟨v252,rfl,ho0,hb⟩;refine ⟨_,rfl,?_⟩;replace HO_3:=zA (Kd.S_elder' (qS HO_3) (Kd.R_base ho0) hb);have HO253:=zA (Kd.R_lower ho0 qs);replace HB:=zA (zH qb hb);clear ho0 hb;obtain ⟨Ao8,co8,eo8⟩:=Kd.R_slice HO253.out;subst eo8)|((with_reducible refine gate_builtin (b:=.append) (xs:=#[.tmp 11,.tmp 17]) rfl ?_);at_builtin;refine Kd.S_append (Kd.slice 65 k65) (w0:=w) w.heap.size rfl (.tmp 11) (.tmp 17) 45 22 (.slice none 0 0) 24 rfl Tryd.underlying45 info22 rfl (by decide) (by omega) u3 x3_1 t251 [.slice Ao8 t251.length co8] (fun _=>True) (fun k_=>some k_ = (.slice Ao8 t251.length co8:Value).ownBlock) rfl rfl (Kd.M_row (Kd.R_mono (Kd.R_tight rfl (Kd.R_mono (ok':=fun k_=>((fun _=>True)) k_∧some k_ ≠ (u3:Value).ownBlock) (Kd.R_apart' (HO253.out) (Kd.S_typed HO_3.out) (by decide)) (fun k_ hk=>⟨trivial,hk.2⟩))) (fun _ h_=>h_))) (fun k_ hk_=>((Kd.R_mono (ok':=fun k_=>((fun _=>True)) k_∧some k_ ≠ (u3:Value).ownBlock) (Kd.R_apart' (HO253.out) (Kd.S_typed HO_3.out) (by decide)) (fun k_ hk=>⟨trivial,hk.2⟩))).1 k_ hk_.symm) (fun _ _=>trivial) ?aO qb qs (qo LMc5) ?_;(case aO=>exact (by (with_reducible repeat (first|apply Kd.S_alloc|apply Kd.S_drewN|apply Kd.S_drew));exact Kd.S_mono HO_3.out (fun k_ hk=>⟨trivial,fun e_=>hk.2 e_⟩)));intro v255 w7 ho hb hg hat;rw [← Ny254.out] at ho;replace HB:=zA (hb);have HO256:=zA (ho);clear HO_3 HO253;clear ho hb hg hat))
      go_roundg k1
      case measure=>have:=HK1.out;omega
      case rel=>exact ⟨(y254),(wrap64 (x4_1 + 1)),qr,H',⟨qo HK1⟩,⟨qS HO256⟩,⟨qb⟩⟩
     ·rw [if_neg c5] at H
      exact absurd H (by simp)
    ·exact absurd H (by simp)
   ·obtain rfl:=Option.some.inj H
    go_wp2
    go_ret
    exact ⟨_,qe,qS HO_3,qb⟩
end Go.Proofs.YthffpjkkmkjplaaDoor.S
namespace Go.Proofs.YthffpjkkmkjplaaDoor.S
open Go.Proofs.YthffpjkkmkjplaaDoor.Al
open Option renaming bind_eq_some_iff → zb
open List renaming setIfInBounds_toArray → zX, set_cons_zero → zY, set_cons_succ → zZ
open Go.Proofs.YthffpjkkmkjplaaDoorW.PrintWords renaming below_drew1 → zE, below_step → zH, blk_cell → zI, blk_frozen → zJ, blk_alloc → zK, blk_drewN → zL, blk_drew → zM, blk_put → zO, gate_dst → zV
open Go.Proofs.YthffpjkkmkjplaaDoor.Sq
open Go.RowKit Go.Proofs.YthffpjkkmkjplaaDoorW.PrintWords Go.Proofs.YthffpjkkmkjplaaDoorW.PrintLast Go.Proofs.YthffpjkkmkjplaaDoorW.PrintMore
attribute [local go_sem] max2_int min2_int max_two min_two max_three min_three max_four min_four
set_option linter.unusedVariables false
set_option linter.unusedSimpArgs false
def foretelllaw_tasks.f (k:Nat) (l0_0:List (S86)) (l0_1:List (S93)) (l0_2:List (List (S65))) (l0_3:List (S65)):Option ((List (S86)) × (List (S93)) × (List (List (S65))) × (List (S65))):=(foretelllaw_models.f k l0_0 l0_1).bind fun bt259=>((foretelllaw_terms.f k l0_2).bind fun t265=>((foretelllaw_ops.f l0_3).bind fun t268=>(some (bt259.1,bt259.2,t265,t268))))
theorem foretelllaw_tasks.mono:∀ a0 a1 a2 a3 k,LeO (foretelllaw_tasks.f k a0 a1 a2 a3) (foretelllaw_tasks.f (k + 1) a0 a1 a2 a3):=by
 intro a0 a1 a2 a3 k
 unfold foretelllaw_tasks.f
 exact qM (And.intro @foretelllaw_models.mono @foretelllaw_terms.mono)
def foretelllaw_tasks.T1:Bool × List (List Nat × List Nat):=(true,[([],[]),([0],[0]),([1],[1]),([],[]),([3],[3]),([4,2],[4]),([],[]),([6],[6]),([7,5],[7]),([2,5,8],[2,5,8]),([9,8,0,1,2,3,4,5,6,7,8,9],[9])])
def foretelllaw_tasks.B1:List Nat:=[0,1,3,0,8,31,0,64,255,511,1023]
theorem foretelllaw_tasks.tab1:rtab .any (opsOf Tryd.f19 1) = foretelllaw_tasks.T1:=by kernel_rfl
theorem foretelllaw_tasks.bits1:waitsOk foretelllaw_tasks.T1.2 foretelllaw_tasks.B1 = true:=by kernel_rfl
set_option maxHeartbeats 8000000 in
set_option maxRecDepth 100000 in
theorem foretelllaw_tasks.calls (k:Nat) (A0_0:Option Addr) (c0_0:Nat) (l0_0:List (S86)) (A0_1:Option Addr) (c0_1:Nat) (l0_1:List (S93)) (A0_2:Option Addr) (c0_2:Nat) (l0_2:List (List (S65))) (A0_3:Option Addr) (c0_3:Nat) (l0_3:List (S65)) (r1:List (S86)) (r2:List (S93)) (r3:List (List (S65))) (r4:List (S65)) (w:World) (hr0_0:Kd.C k86 w A0_0 l0_0.length l0_0) (hc0_0:l0_0.length ≤ c0_0) (hr0_1:Kd.C k93 w A0_1 l0_1.length l0_1) (hc0_1:l0_1.length ≤ c0_1) (hr0_2:Kd.C (Kd.slice 65 k65) w A0_2 l0_2.length l0_2) (hc0_2:l0_2.length ≤ c0_2) (hr0_3:Kd.C k65 w A0_3 l0_3.length l0_3) (hc0_3:l0_3.length ≤ c0_3) (h:foretelllaw_tasks.f k l0_0 l0_1 l0_2 l0_3 = some (r1,r2,r3,r4)) :
  Calls Tryd.prog 19 #[.agg #[.slice A0_0 l0_0.length c0_0,.slice A0_1 l0_1.length c0_1,.slice A0_2 l0_2.length c0_2,.slice A0_3 l0_3.length c0_3]] w fun e w'=>∃ v0_ v1_ v2_ v3_:Value,e = .returned (.agg #[v0_,v1_,v2_,v3_])∧Kd.R k86 86 w' w.heap.size (fun _=>True) v0_ r1∧Kd.R k93 93 w' w.heap.size (fun k_=>some k_ ≠ (v3_:Value).ownBlock) v1_ r2∧Kd.S (Kd.slice 65 k65) 22 w' w.heap.size (fun k_=>some k_ ≠ (v3_:Value).ownBlock) v2_ r3∧Kd.R k65 65 w' w.heap.size (fun _=>True) v3_ r4∧Below w.heap.size w w':=by
 have hu47:=Tryd.underlying47
 have hu44:=Tryd.underlying44
 have HR0_0:=zA hr0_0
 have HC0_0:=zA hc0_0
 clear hr0_0 hc0_0
 have HR0_1:=zA hr0_1
 have HC0_1:=zA hc0_1
 clear hr0_1 hc0_1
 have HR0_2:=zA hr0_2
 have HC0_2:=zA hc0_2
 clear hr0_2 hc0_2
 have HR0_3:=zA hr0_3
 have HC0_3:=zA hc0_3
 clear hr0_3 hc0_3
 have HB:=zA (Below.refl w.heap.size w)
 have H:((foretelllaw_models.f k l0_0 l0_1).bind fun bt259=>((foretelllaw_terms.f k l0_2).bind fun t265=>((foretelllaw_ops.f l0_3).bind fun t268=>(some (bt259.1,bt259.2,t265,t268))))) = some (r1,r2,r3,r4):=h
 clear h
 replace H:=zb.mp H
 obtain ⟨⟨t259,t262⟩,A20,H⟩:=H
 replace H:((foretelllaw_terms.f k l0_2).bind fun t265=>((foretelllaw_ops.f l0_3).bind fun t268=>(some (t259,t262,t265,t268)))) = some (r1,r2,r3,r4):=H
 have A2:=zA A20
 clear A20
 replace H:=zb.mp H
 obtain ⟨t265,A30,H⟩:=H
 replace H:((foretelllaw_ops.f l0_3).bind fun t268=>(some (t259,t262,t265,t268))) = some (r1,r2,r3,r4):=H
 have A3:=zA A30
 clear A30
 replace H:=zb.mp H
 obtain ⟨t268,A40,H⟩:=H
 replace H:(some (t259,t262,t265,t268)) = some (r1,r2,r3,r4):=H
 have A4:=zA A40
 clear A40
 simp only [Option.some.injEq,Prod.mk.injEq] at H
 obtain ⟨rfl,rfl,rfl,rfl⟩:=H
 go_enter Tryd.func19,Tryd.ntmps19
 try go_wp2_with (first|((with_reducible refine zV (N:=1) rfl ?_);refine bq 1 (cs:=#[.slice A0_0 l0_0.length c0_0,.slice A0_1 l0_1.length c0_1,.slice A0_2 l0_2.length c0_2,.slice A0_3 l0_3.length c0_3]) (t:=47) ?_;intro gb257 hg w5 hbox hb;have BK257:=zA (hbox);have GW257:=zA (qg hg);have GE257:=zA (qg hg);replace HB:=zA (zH qb hb);clear hb hbox hg)|((with_reducible refine zV (N:=2) rfl ?_);refine bq 2 (cs:=#[.slice none 0 0,.slice none 0 0,.slice none 0 0,.slice none 0 0]) (t:=47) ?_;intro gb258 hg w6 hbox hb;have BK258:=zA (hbox);have GW258:=zA (qg hg);have GE258:=zA (qg hg);replace HB:=zA (zH qb hb);have NB257_258:=zA ((by rw [hg];exact Nat.ne_of_lt (blk_lt (g:=gb257) (o:=.cells #[.slice A0_0 l0_0.length c0_0,.slice A0_1 l0_1.length c0_1,.slice A0_2 l0_2.length c0_2,.slice A0_3 l0_3.length c0_3] 47 (0,0)) (qk BK257)):gb257 ≠ gb258));have NB258_257:=zA ((by rw [hg];exact Nat.ne_of_gt (blk_lt (g:=gb257) (o:=.cells #[.slice A0_0 l0_0.length c0_0,.slice A0_1 l0_1.length c0_1,.slice A0_2 l0_2.length c0_2,.slice A0_3 l0_3.length c0_3] 47 (0,0)) (qk BK257)):gb258 ≠ gb257));replace BK257:=qK BK257 hb;clear hb hbox hg))
 replace BK257:=zA (zM BK257.out)
 replace BK258:=zA (zM BK258.out)
 replace HB:=zA (zE HB.out)
 refine start_ (n:=11) (S:=fun w'=>w'.cell? ⟨gb257,0,none⟩ = some (.slice A0_0 l0_0.length c0_0)∧w'.cell? ⟨gb257,1,none⟩ = some (.slice A0_1 l0_1.length c0_1)∧w'.cell? ⟨gb257,2,none⟩ = some (.slice A0_2 l0_2.length c0_2)∧w'.cell? ⟨gb257,3,none⟩ = some (.slice A0_3 l0_3.length c0_3)) (ds:=[]) #[false,false,false,false,false,false,false,false,false,false,false] (by kernel_rfl) rfl rfl ⟨(zI BK257.out 0).trans rfl,(zI BK257.out 1).trans rfl,(zI BK257.out 2).trans rfl,(zI BK257.out 3).trans rfl⟩ (fun hHeld=>?_);refine with_tabW foretelllaw_tasks.tab1 foretelllaw_tasks.bits1 (fun HT_ HW_=>?_)
 generalize w6.drew = w7 at BK257 BK258 HB hHeld ⊢
 refine pq 0 (some 3) HT_ ?_
 refine pq 3 (some 6) HT_ ?_
 refine pq 6 (some 9) HT_ ?_
 refine tq 1 (some 4) HT_ HW_ hHeld ?_
 refine tq 4 (some 7) HT_ HW_ hHeld ?_
 refine tq 7 (some 10) HT_ HW_ hHeld ?_
 refine oq 2 (some 5) HT_ (fun K hK=>?_)
 refine gq Tryd.func33 #[.agg #[.slice A0_0 l0_0.length c0_0,.slice A0_1 l0_1.length c0_1]] ?_
 with_reducible refine (foretelllaw_models.calls k _ _ l0_0 _ _ l0_1 t259 t262 _ (qc HR0_0) HC0_0.out (qc HR0_1) HC0_1.out A2.out).mono ?_
 rintro e w8 ⟨v260,v263,rfl,ho0,ho1,hb⟩
 refine ⟨_,rfl,?_⟩
 have HO261:=zA (Kd.R_lower ho0 qs)
 have HO264:=zA (Kd.R_lower ho1 qs)
 replace BK257:=qK BK257 hb
 replace BK258:=qK BK258 hb
 replace HB:=zA (zH qb hb)
 (try clear hb)
 (try clear hb2)
 (try clear hk)
 (try clear hi)
 (try clear ho0)
 (try clear ho1)
 refine hK.out _ _ ⟨(zI BK257.out 0).trans rfl,(zI BK257.out 1).trans rfl,(zI BK257.out 2).trans rfl,(zI BK257.out 3).trans rfl⟩ (fun hHeld=>?_)
 clear hK K
 refine norm_ (a':=?_) ?_ ?_
 rotate_left
 ·show Act.put _ (some 5) _ = _
  simp only [Act.put,zX,zY,zZ,i64_w,i32_w]
  rfl
 refine oq 5 (some 8) HT_ (fun K hK=>?_)
 refine gq Tryd.func34 #[.slice A0_2 l0_2.length c0_2] ?_
 with_reducible refine (foretelllaw_terms.calls k _ _ l0_2 t265 _ (qc HR0_2) HC0_2.out A3.out).mono ?_
 rintro e w9 ⟨v266,rfl,ho0,hb⟩
 refine ⟨_,rfl,?_⟩
 replace HO261:=zA (Kd.R_below (qR HO261) hb)
 replace HO264:=zA (Kd.R_below (qR HO264) hb)
 have HO267:=zA (Kd.S_lower ho0 qs)
 replace BK257:=qK BK257 hb
 replace BK258:=qK BK258 hb
 replace HB:=zA (zH qb hb)
 (try clear hb)
 (try clear hb2)
 (try clear hk)
 (try clear hi)
 (try clear ho0)
 refine hK.out _ _ ⟨(zI BK257.out 0).trans rfl,(zI BK257.out 1).trans rfl,(zI BK257.out 2).trans rfl,(zI BK257.out 3).trans rfl⟩ (fun hHeld=>?_)
 clear hK K
 refine norm_ (a':=?_) ?_ ?_
 rotate_left
 ·show Act.put _ (some 8) _ = _
  simp only [Act.put,zX,zY,zZ,i64_w,i32_w]
  rfl
 refine oq 8 (some 11) HT_ (fun K hK=>?_)
 refine gq Tryd.func9 #[.slice A0_3 l0_3.length c0_3] ?_
 with_reducible refine (foretelllaw_ops.calls _ _ l0_3 t268 _ (qc HR0_3) HC0_3.out A4.out).mono ?_
 rintro e w10 ⟨v269,rfl,ho0,hb⟩
 refine ⟨_,rfl,?_⟩
 replace HO261:=zA (Kd.R_below (qR HO261) hb)
 replace HO264:=zA (Kd.R_elder' (qR HO264) (Kd.R_base ho0) hb)
 replace HO267:=zA (Kd.S_elder' (qS HO267) (Kd.R_base ho0) hb)
 have HO270:=zA (Kd.R_lower ho0 qs)
 replace BK257:=qK BK257 hb
 replace BK258:=qK BK258 hb
 replace HB:=zA (zH qb hb)
 (try clear hb)
 (try clear hb2)
 (try clear hk)
 (try clear hi)
 (try clear ho0)
 obtain ⟨Ao11,co11,eo11⟩:=Kd.R_slice HO270.out
 (first|subst eo11|(injection eo11 with f1_ f2_ f3_;have f4_:=f1_.symm;have f5_:=f3_.symm;clear f1_ f2_ f3_;subst f4_;subst f5_))
 obtain ⟨Ao12,co12,eo12⟩:=Kd.S_slice HO267.out
 (first|subst eo12|(injection eo12 with f1_ f2_ f3_;have f4_:=f1_.symm;have f5_:=f3_.symm;clear f1_ f2_ f3_;subst f4_;subst f5_))
 obtain ⟨Ao13,co13,eo13⟩:=Kd.R_slice HO264.out
 (first|subst eo13|(injection eo13 with f1_ f2_ f3_;have f4_:=f1_.symm;have f5_:=f3_.symm;clear f1_ f2_ f3_;subst f4_;subst f5_))
 obtain ⟨Ao14,co14,eo14⟩:=Kd.R_slice HO261.out
 (first|subst eo14|(injection eo14 with f1_ f2_ f3_;have f4_:=f1_.symm;have f5_:=f3_.symm;clear f1_ f2_ f3_;subst f4_;subst f5_))
 refine hK.out _ _ ⟨(zI BK257.out 0).trans rfl,(zI BK257.out 1).trans rfl,(zI BK257.out 2).trans rfl,(zI BK257.out 3).trans rfl⟩ (fun hHeld=>?_)
 clear hK K
 refine norm_ (a':=?_) ?_ ?_
 rotate_left
 ·show Act.put _ (some 11) _ = _
  simp only [Act.put,zX,zY,zZ,i64_w,i32_w]
  rfl
 refine pq 9 (some 12) HT_ ?_
 refine oq 10 (none) HT_ (fun K hK=>?_)
 have hs15:w10.cell? ⟨gb258,0,none⟩ = some (.slice none 0 0):=(zI BK258.out 0).trans rfl
 have hfs15:=zJ BK258.out 0
 have hns15_0:=NB257_258.out
 have hms15_0:=NB258_257.out
 have hs16:w10.cell? ⟨gb258,1,none⟩ = some (.slice none 0 0):=(zI BK258.out 1).trans rfl
 have hfs16:=zJ BK258.out 1
 have hns16_0:=NB257_258.out
 have hms16_0:=NB258_257.out
 have hs17:w10.cell? ⟨gb258,2,none⟩ = some (.slice none 0 0):=(zI BK258.out 2).trans rfl
 have hfs17:=zJ BK258.out 2
 have hns17_0:=NB257_258.out
 have hms17_0:=NB258_257.out
 have hs18:w10.cell? ⟨gb258,3,none⟩ = some (.slice none 0 0):=(zI BK258.out 3).trans rfl
 have hfs18:=zJ BK258.out 3
 have hns18_0:=NB257_258.out
 have hms18_0:=NB258_257.out
 refine skip_ (w1:=?_) (by rfl) rfl ?_ ?_
 rotate_left
 ·go_simp
  rfl
 refine hK.out _ _ ⟨((cell_far (p:=⟨gb258,_,none⟩) NB257_258.out _).trans (((cell_far (p:=⟨gb258,_,none⟩) NB257_258.out _).trans (((cell_far (p:=⟨gb258,_,none⟩) NB257_258.out _).trans (((cell_far (p:=⟨gb258,_,none⟩) NB257_258.out _).trans (hHeld.1)))))))),((cell_far (p:=⟨gb258,_,none⟩) NB257_258.out _).trans (((cell_far (p:=⟨gb258,_,none⟩) NB257_258.out _).trans (((cell_far (p:=⟨gb258,_,none⟩) NB257_258.out _).trans (((cell_far (p:=⟨gb258,_,none⟩) NB257_258.out _).trans (hHeld.2.1)))))))),((cell_far (p:=⟨gb258,_,none⟩) NB257_258.out _).trans (((cell_far (p:=⟨gb258,_,none⟩) NB257_258.out _).trans (((cell_far (p:=⟨gb258,_,none⟩) NB257_258.out _).trans (((cell_far (p:=⟨gb258,_,none⟩) NB257_258.out _).trans (hHeld.2.2.1)))))))),((cell_far (p:=⟨gb258,_,none⟩) NB257_258.out _).trans (((cell_far (p:=⟨gb258,_,none⟩) NB257_258.out _).trans (((cell_far (p:=⟨gb258,_,none⟩) NB257_258.out _).trans (((cell_far (p:=⟨gb258,_,none⟩) NB257_258.out _).trans (hHeld.2.2.2))))))))⟩ (fun hHeld=>?_)
 clear hK K
 refine done_ (done_of HT_.out (by kernel_rfl)) ?_
 try go_wp2
 refine bodyPost_ret (results_cell_row rfl _ _ gb258 47 #[.slice Ao14 t259.length co14,.slice Ao13 t262.length co13,.slice Ao12 t265.length co12,.slice Ao11 t268.length co11] (0,0) _ rfl (by (with_reducible repeat (first|refine zL ?_ _|refine zM ?_|refine zK ?_ _));refine zO (cs:=#[.slice Ao14 t259.length co14,.slice Ao13 t262.length co13,.slice Ao12 t265.length co12,.slice none 0 0]) ?_ 3 _ rfl;(with_reducible repeat (first|refine zL ?_ _|refine zM ?_|refine zK ?_ _));refine zO (cs:=#[.slice Ao14 t259.length co14,.slice Ao13 t262.length co13,.slice none 0 0,.slice none 0 0]) ?_ 2 _ rfl;(with_reducible repeat (first|refine zL ?_ _|refine zM ?_|refine zK ?_ _));refine zO (cs:=#[.slice Ao14 t259.length co14,.slice none 0 0,.slice none 0 0,.slice none 0 0]) ?_ 1 _ rfl;(with_reducible repeat (first|refine zL ?_ _|refine zM ?_|refine zK ?_ _));refine zO (cs:=#[.slice none 0 0,.slice none 0 0,.slice none 0 0,.slice none 0 0]) ?_ 0 _ rfl;(with_reducible repeat (first|refine zL ?_ _|refine zM ?_|refine zK ?_ _));exact BK258.out) Tryd.underlying47 rfl (by kernel_rfl)) rfl ?_
 exact ⟨_,_,_,_,qe,by (with_reducible repeat (first|apply Kd.R_alloc|apply Kd.R_drewN|apply Kd.R_drew));exact Kd.R_mono (Kd.R_far (p:=⟨gb258,3,none⟩) (Kd.R_far (p:=⟨gb258,2,none⟩) (Kd.R_far (p:=⟨gb258,1,none⟩) (Kd.R_far (p:=⟨gb258,0,none⟩) (Kd.R_types HO261.out BK258.out (by decide)) (fun _ hk=>hk.2) (.slice Ao14 t259.length co14)) (fun _ hk=>hk.2) (.slice Ao13 t262.length co13)) (fun _ hk=>hk.2) (.slice Ao12 t265.length co12)) (fun _ hk=>hk.2) (.slice Ao11 t268.length co11)) (fun _ hk=>trivial),by (with_reducible repeat (first|apply Kd.R_alloc|apply Kd.R_drewN|apply Kd.R_drew));exact Kd.R_mono (Kd.R_far (p:=⟨gb258,3,none⟩) (Kd.R_far (p:=⟨gb258,2,none⟩) (Kd.R_far (p:=⟨gb258,1,none⟩) (Kd.R_far (p:=⟨gb258,0,none⟩) (Kd.R_types HO264.out BK258.out (by decide)) (fun _ hk=>hk.2) (.slice Ao14 t259.length co14)) (fun _ hk=>hk.2) (.slice Ao13 t262.length co13)) (fun _ hk=>hk.2) (.slice Ao12 t265.length co12)) (fun _ hk=>hk.2) (.slice Ao11 t268.length co11)) (fun _ hk=>hk.1.2),by (with_reducible repeat (first|apply Kd.S_alloc|apply Kd.S_drewN|apply Kd.S_drew));exact Kd.S_mono (Kd.S_far (p:=⟨gb258,3,none⟩) (Kd.S_far (p:=⟨gb258,2,none⟩) (Kd.S_far (p:=⟨gb258,1,none⟩) (Kd.S_far (p:=⟨gb258,0,none⟩) (Kd.S_types HO267.out BK258.out (by decide)) (fun _ hk=>hk.2) (.slice Ao14 t259.length co14)) (fun _ hk=>hk.2) (.slice Ao13 t262.length co13)) (fun _ hk=>hk.2) (.slice Ao12 t265.length co12)) (fun _ hk=>hk.2) (.slice Ao11 t268.length co11)) (fun _ hk=>hk.1.2),by (with_reducible repeat (first|apply Kd.R_alloc|apply Kd.R_drewN|apply Kd.R_drew));exact Kd.R_mono (Kd.R_far (p:=⟨gb258,3,none⟩) (Kd.R_far (p:=⟨gb258,2,none⟩) (Kd.R_far (p:=⟨gb258,1,none⟩) (Kd.R_far (p:=⟨gb258,0,none⟩) (Kd.R_types HO270.out BK258.out (by decide)) (fun _ hk=>hk.2) (.slice Ao14 t259.length co14)) (fun _ hk=>hk.2) (.slice Ao13 t262.length co13)) (fun _ hk=>hk.2) (.slice Ao12 t265.length co12)) (fun _ hk=>hk.2) (.slice Ao11 t268.length co11)) (fun _ hk=>trivial),qb⟩
end Go.Proofs.YthffpjkkmkjplaaDoor.S
namespace Go.Proofs.YthffpjkkmkjplaaDoor.S
open Go.Proofs.YthffpjkkmkjplaaDoor.Al
open Option renaming bind_eq_some_iff → zb
open Go.Proofs.YthffpjkkmkjplaaDoorW.PrintWords renaming below_step → zH, gate_callee → zU
open Go.Proofs.YthffpjkkmkjplaaDoor.Sq
open Go.RowKit Go.Proofs.YthffpjkkmkjplaaDoorW.PrintWords Go.Proofs.YthffpjkkmkjplaaDoorW.PrintLast Go.Proofs.YthffpjkkmkjplaaDoorW.PrintMore
attribute [local go_sem] max2_int min2_int max_two min_two max_three min_three max_four min_four
set_option linter.unusedVariables false
set_option linter.unusedSimpArgs false
def foretellref_kindFault.f (k:Nat) (l0:List (S65)) (a1:Int) (a2:Bool):Option (Int):=(foretellref_ExprChecked.f k l0 a1).bind fun bt348=>(if bt348.2 = 0 then (if (bt348.1 != a2) = true then (some 5) else (some 0)) else (some bt348.2))
theorem foretellref_kindFault.mono:∀ a0 a1 a2 k,LeO (foretellref_kindFault.f k a0 a1 a2) (foretellref_kindFault.f (k + 1) a0 a1 a2):=by
 intro a0 a1 a2 k
 unfold foretellref_kindFault.f
 exact qM @foretellref_ExprChecked.mono
set_option maxHeartbeats 8000000 in
set_option maxRecDepth 100000 in
theorem foretellref_kindFault.calls (k:Nat) (A0:Option Addr) (c0:Nat) (l0:List (S65)) (a1:Int) (a2:Bool) (r:Int) (w:World) (hr0:Kd.C k65 w A0 l0.length l0) (hc0:l0.length ≤ c0) (h:foretellref_kindFault.f k l0 a1 a2 = some r) :
  Calls Tryd.prog 86 #[.slice A0 l0.length c0,.int .i64 a1,.bool a2] w fun e w'=>e = .returned (.int .i64 r)∧Below w.heap.size w w':=by
 have HR0:=zA hr0
 have HC0:=zA hc0
 clear hr0 hc0
 have HB:=zA (Below.refl w.heap.size w)
 have H:((foretellref_ExprChecked.f k l0 a1).bind fun bt348=>(if bt348.2 = 0 then (if (bt348.1 != a2) = true then (some 5) else (some 0)) else (some bt348.2))) = some r:=h
 clear h
 replace H:=zb.mp H
 obtain ⟨⟨t348,t349⟩,A40,H⟩:=H
 replace H:(if t349 = 0 then (if (t348 != a2) = true then (some 5) else (some 0)) else (some t349)) = some r:=H
 have A4:=zA A40
 clear A40
 by_cases c5:t349 = 0
 ·rw [if_pos c5] at H
  have c5b0:(t349 == 0) = true:=beq_iff_eq.mpr c5
  have c5b1:(t349 != 0) = false:=bne_eq_false_iff_eq.mpr c5
  clear c5
  by_cases c6:(t348 != a2) = true
  ·rw [if_pos c6] at H
   have c6b0:(t348 != a2) = true:=c6
   (try (have c6b1:decide (t348 = a2) = false:=by simpa using c6))
   (try (have c6b2:(t348 == a2) = false:=by simpa using c6))
   (try (have c6b3:¬ (t348 = a2):=by simpa using c6))
   clear c6
   obtain rfl:=Option.some.inj H
   go_enter Tryd.func86,Tryd.ntmps86
   go_wp2_with (first|((with_reducible refine zU (f:=89) rfl ?_);refine gL (some 12) Tryd.func89 #[.slice A0 l0.length c0,.int .i64 a1] ?_;(with_reducible refine (foretellref_ExprChecked.calls k _ _ l0 a1 t348 t349 _ (qu HR0.out) HC0.out A4.out).mono ?_);rintro e w7 ⟨rfl,hb⟩;refine ⟨_,rfl,?_⟩;replace HB:=zA (zH qb hb);clear hb))
   go_ret
   exact ⟨qe,qb⟩
  ·rw [if_neg c6] at H
   have c6b0:(t348 != a2) = false:=by simpa using c6
   (try (have c6b1:decide (t348 = a2) = true:=by simpa using c6))
   (try (have c6b2:(t348 == a2) = true:=by simpa using c6))
   clear c6
   obtain rfl:=Option.some.inj H
   go_enter Tryd.func86,Tryd.ntmps86
   go_wp2_with (first|((with_reducible refine zU (f:=89) rfl ?_);refine gL (some 12) Tryd.func89 #[.slice A0 l0.length c0,.int .i64 a1] ?_;(with_reducible refine (foretellref_ExprChecked.calls k _ _ l0 a1 t348 t349 _ (qu HR0.out) HC0.out A4.out).mono ?_);rintro e w8 ⟨rfl,hb⟩;refine ⟨_,rfl,?_⟩;replace HB:=zA (zH qb hb);clear hb))
   go_ret
   exact ⟨qe,qb⟩
 ·rw [if_neg c5] at H
  have c5b0:(t349 == 0) = false:=beq_eq_false_iff_ne.mpr c5
  have c5b1:(t349 != 0) = true:=bne_iff_ne.mpr c5
  obtain rfl:=Option.some.inj H
  go_enter Tryd.func86,Tryd.ntmps86
  go_wp2_with (first|((with_reducible refine zU (f:=89) rfl ?_);refine gL (some 12) Tryd.func89 #[.slice A0 l0.length c0,.int .i64 a1] ?_;(with_reducible refine (foretellref_ExprChecked.calls k _ _ l0 a1 t348 t349 _ (qu HR0.out) HC0.out A4.out).mono ?_);rintro e w9 ⟨rfl,hb⟩;refine ⟨_,rfl,?_⟩;replace HB:=zA (zH qb hb);clear hb))
  go_ret
  exact ⟨qe,qb⟩
end Go.Proofs.YthffpjkkmkjplaaDoor.S
namespace Go.Proofs.YthffpjkkmkjplaaDoor.S
open Go.Proofs.YthffpjkkmkjplaaDoor.Al
open Option renaming bind_eq_some_iff → zb
open Go.Proofs.YthffpjkkmkjplaaDoorW.PrintWords renaming gate_callee → zU
open Go.Proofs.YthffpjkkmkjplaaDoor.Sq
open Go.RowKit Go.Proofs.YthffpjkkmkjplaaDoorW.PrintWords Go.Proofs.YthffpjkkmkjplaaDoorW.PrintLast Go.Proofs.YthffpjkkmkjplaaDoorW.PrintMore
attribute [local go_sem] max2_int min2_int max_two min_two max_three min_three max_four min_four
set_option linter.unusedVariables false
set_option linter.unusedSimpArgs false
mutual
def foretellref_NameMay.j0:Nat → ByteArray → Bool → Option (Bool)
 | 0,_,_=>none
 | k + 1,x0,x17=>if x17 = true then (some false) else (foretellref_NameMay.l0 k x0 0)
def foretellref_NameMay.l0:Nat → ByteArray → Int → Option (Bool)
 | 0,_,_=>none
 | k + 1,x0,x3=>if x3 < (x0.size:Int) then (if 0 ≤ x3 then ((foretellref_In.f (wrap64 (bt x0 x3)) 97 122).bind fun t294=>((foretellref_In.f (wrap64 (bt x0 x3)) 48 57).bind fun t295=>(if t294 = true then (if x3 = 0 then (if t295 = true then (some false) else (foretellref_NameMay.l0 k x0 (wrap64 (x3 + 1)))) else (foretellref_NameMay.l0 k x0 (wrap64 (x3 + 1)))) else (if t295 = true then (if x3 = 0 then (some false) else (foretellref_NameMay.l0 k x0 (wrap64 (x3 + 1)))) else (some false))))) else (none)) else (some true)
end
def foretellref_NameMay.f (k:Nat) (a0:ByteArray):Option (Bool):=(foretellref_In.f (a0.size:Int) 1 8).bind fun t293=>(if t293 = true then (if a0.toList = ([121,101,115]:List UInt8) then (foretellref_NameMay.j0 k a0 true) else (foretellref_NameMay.j0 k a0 (a0.toList == ([110,111]:List UInt8)))) else (foretellref_NameMay.j0 k a0 true))
theorem foretellref_NameMay.mono_l:∀ k,(∀ y0 y1,LeO (foretellref_NameMay.j0 k y0 y1) (foretellref_NameMay.j0 (k + 1) y0 y1))∧(∀ y0 y1,LeO (foretellref_NameMay.l0 k y0 y1) (foretellref_NameMay.l0 (k + 1) y0 y1))
 | 0=>⟨fun _ _ r h=>by simp [foretellref_NameMay.j0] at h,fun _ _ r h=>by simp [foretellref_NameMay.l0] at h⟩
 | k + 1=>by
  obtain ⟨ih0,ih1⟩:=foretellref_NameMay.mono_l k
  refine ⟨?_,?_⟩
  ·intro y0 y1
   unfold foretellref_NameMay.j0
   exact qL
  ·intro y0 y1
   unfold foretellref_NameMay.l0
   exact qL
theorem foretellref_NameMay.mono:∀ a0 k,LeO (foretellref_NameMay.f k a0) (foretellref_NameMay.f (k + 1) a0):=by
 intro a0 k
 obtain ⟨ih0,ih1⟩:=foretellref_NameMay.mono_l k
 unfold foretellref_NameMay.f
 exact qL
set_option maxHeartbeats 8000000 in
set_option maxRecDepth 100000 in
theorem foretellref_NameMay.calls (k:Nat) (a0:ByteArray) (r:Bool) (w:World) (h:foretellref_NameMay.f k a0 = some r) :
  Calls Tryd.prog 111 #[.string a0] w fun e w'=>e = .returned (.bool r)∧Drawn0 w w':=by
 have H:((foretellref_In.f (a0.size:Int) 1 8).bind fun t293=>(if t293 = true then (if a0.toList = ([121,101,115]:List UInt8) then (foretellref_NameMay.j0 k a0 true) else (foretellref_NameMay.j0 k a0 (a0.toList == ([110,111]:List UInt8)))) else (foretellref_NameMay.j0 k a0 true))) = some r:=h
 clear h
 have HC2:=zA H
 clear H
 go_enter Tryd.func111,Tryd.ntmps111
 go_upto_region 1 with (fail)
 go_cut [17] (fun v17 wc=>∃ (kq:Nat) (x17_1:Bool),v17 = .bool x17_1∧Aside0 (foretellref_NameMay.j0 kq a0 x17_1 = some r)∧Aside0 (kq ≤ k)∧Drawn0 w wc)
 case first =>
  have H:=HC2.out
  clear HC2
  replace H:=zb.mp H
  obtain ⟨t293,A30,H⟩:=H
  replace H:(if t293 = true then (if a0.toList = ([121,101,115]:List UInt8) then (foretellref_NameMay.j0 k a0 true) else (foretellref_NameMay.j0 k a0 (a0.toList == ([110,111]:List UInt8)))) else (foretellref_NameMay.j0 k a0 true)) = some r:=H
  have A3:=zA A30
  clear A30
  by_cases c4:t293 = true
  ·subst c4
   have H1:(if a0.toList = ([121,101,115]:List UInt8) then (foretellref_NameMay.j0 k a0 true) else (foretellref_NameMay.j0 k a0 (a0.toList == ([110,111]:List UInt8)))) = some r:=by rw [if_pos rfl] at H;exact H
   clear H
   have H:=H1
   clear H1
   by_cases c5:a0.toList = ([121,101,115]:List UInt8)
   ·rw [if_pos c5] at H
    have c5b0:(a0.toList == ([121,101,115]:List UInt8)) = true:=beq_iff_eq.mpr c5
    have c5b1:(a0.toList != ([121,101,115]:List UInt8)) = false:=bne_eq_false_iff_eq.mpr c5
    clear c5
    (first|rw [c5b0]|(simp only [i64_w,i32_w];rw [c5b0])|skip)
    have H':=zA H
    clear H
    go_wp2_with (first|((with_reducible refine zU (f:=50) rfl ?_);refine gL (some 8) Tryd.func50 #[.int .i64 (a0.size:Int),.int .i64 1,.int .i64 8] ?_;(with_reducible refine (foretellref_In.calls (a0.size:Int) 1 8 true _ A3.out).mono ?_);rintro e w' ⟨rfl,⟨nd,rfl⟩⟩;refine ⟨_,rfl,?_⟩))
    go_meet
    case rel=>exact ⟨_,(true),qr,H',⟨qm⟩,qt⟩
   ·rw [if_neg c5] at H
    have c5b0:(a0.toList == ([121,101,115]:List UInt8)) = false:=beq_eq_false_iff_ne.mpr c5
    have c5b1:(a0.toList != ([121,101,115]:List UInt8)) = true:=bne_iff_ne.mpr c5
    (first|rw [c5b0]|(simp only [i64_w,i32_w];rw [c5b0])|skip)
    have H':=zA H
    clear H
    go_wp2_with (first|((with_reducible refine zU (f:=50) rfl ?_);refine gL (some 8) Tryd.func50 #[.int .i64 (a0.size:Int),.int .i64 1,.int .i64 8] ?_;(with_reducible refine (foretellref_In.calls (a0.size:Int) 1 8 true _ A3.out).mono ?_);rintro e w' ⟨rfl,⟨nd,rfl⟩⟩;refine ⟨_,rfl,?_⟩))
    go_meet
    case rel=>exact ⟨_,((a0.toList == ([110,111]:List UInt8))),qr,H',⟨qm⟩,qt⟩
  ·replace c4:=Bool.eq_false_iff.mpr c4
   subst c4
   have H1:(foretellref_NameMay.j0 k a0 true) = some r:=by rw [if_neg (show ¬ (false = true) by decide)] at H;exact H
   clear H
   have H:=H1
   clear H1
   have H':=zA H
   clear H
   go_wp2_with (first|((with_reducible refine zU (f:=50) rfl ?_);refine gL (some 8) Tryd.func50 #[.int .i64 (a0.size:Int),.int .i64 1,.int .i64 8] ?_;(with_reducible refine (foretellref_In.calls (a0.size:Int) 1 8 false _ A3.out).mono ?_);rintro e w' ⟨rfl,⟨nd,rfl⟩⟩;refine ⟨_,rfl,?_⟩))
   go_meet
   case rel=>exact ⟨_,(true),qr,H',⟨qm⟩,qt⟩
 case rest =>
  clear HC2
  try clear c1
  try clear p2
  try clear c4
  try clear c5
  try clear c5b0
  try clear c5b1
  obtain ⟨kq,x17_1,rfl,HA,HJ1,⟨mc1,rfl⟩⟩:=hcut
  cases kq with
  | zero=>exact absurd HA.out (by simp [foretellref_NameMay.j0])
  | succ kj1 =>
   have H:=HA.out
   clear HA
   simp only [foretellref_NameMay.j0] at H
   by_cases c6:x17_1 = true
   ·subst c6
    have H1:(some false) = some r:=by rw [if_pos rfl] at H;exact H
    clear H
    have H:=H1
    clear H1
    obtain rfl:=Option.some.inj H
    go_wp2
    go_ret
    exact ⟨qr,qt⟩
   ·replace c6:=Bool.eq_false_iff.mpr c6
    subst c6
    have H1:(foretellref_NameMay.l0 kj1 a0 0) = some r:=by rw [if_neg (show ¬ (false = true) by decide)] at H;exact H
    clear H
    have H:=H1
    clear H1
    have H':=zA H
    clear H
    go_wp2
    go_loopg [3] kj1 (fun kq v3 w'=>∃ (x3_2:Int),v3 = .int .i64 x3_2∧Aside0 (foretellref_NameMay.l0 kq a0 x3_2 = some r)∧Aside0 (kq ≤ kj1)∧Drawn0 w w')
    case atStart=>exact ⟨(0),qr,H',⟨Nat.le_refl _⟩,qt⟩
    case round =>
     clear H'
     try clear c1
     try clear p2
     try clear c4
     try clear c5
     try clear c5b0
     try clear c5b1
     try clear c6
     try clear p2
     obtain ⟨x3_2,rfl,HA,HK2,⟨m2,rfl⟩⟩:=hrel
     cases gk with
     | zero=>exact absurd HA.out (by simp [foretellref_NameMay.l0])
     | succ k2 =>
      have H:=HA.out
      clear HA
      simp only [foretellref_NameMay.l0] at H
      rcases qj H with ⟨c7b0,H⟩|⟨c7b0,H⟩
      ·rcases qj H with ⟨c8b0,H⟩|⟨c8,H⟩
       ·replace H:=zb.mp H
        obtain ⟨t294,A100,H⟩:=H
        replace H:((foretellref_In.f (wrap64 (bt a0 x3_2)) 48 57).bind fun t295=>(if t294 = true then (if x3_2 = 0 then (if t295 = true then (some false) else (foretellref_NameMay.l0 k2 a0 (wrap64 (x3_2 + 1)))) else (foretellref_NameMay.l0 k2 a0 (wrap64 (x3_2 + 1)))) else (if t295 = true then (if x3_2 = 0 then (some false) else (foretellref_NameMay.l0 k2 a0 (wrap64 (x3_2 + 1)))) else (some false)))) = some r:=H
        have A10:=zA A100
        clear A100
        replace H:=zb.mp H
        obtain ⟨t295,A120,H⟩:=H
        replace H:(if t294 = true then (if x3_2 = 0 then (if t295 = true then (some false) else (foretellref_NameMay.l0 k2 a0 (wrap64 (x3_2 + 1)))) else (foretellref_NameMay.l0 k2 a0 (wrap64 (x3_2 + 1)))) else (if t295 = true then (if x3_2 = 0 then (some false) else (foretellref_NameMay.l0 k2 a0 (wrap64 (x3_2 + 1)))) else (some false))) = some r:=H
        have A12:=zA A120
        clear A120
        by_cases c13:t294 = true
        ·subst c13
         have H1:(if x3_2 = 0 then (if t295 = true then (some false) else (foretellref_NameMay.l0 k2 a0 (wrap64 (x3_2 + 1)))) else (foretellref_NameMay.l0 k2 a0 (wrap64 (x3_2 + 1)))) = some r:=by rw [if_pos rfl] at H;exact H
         clear H
         have H:=H1
         clear H1
         by_cases c14:x3_2 = 0
         ·rw [if_pos c14] at H
          have c14b0:(x3_2 == 0) = true:=beq_iff_eq.mpr c14
          have c14b1:(x3_2 != 0) = false:=bne_eq_false_iff_eq.mpr c14
          clear c14
          by_cases c15:t295 = true
          ·subst c15
           have H1:(some false) = some r:=by rw [if_pos rfl] at H;exact H
           clear H
           have H:=H1
           clear H1
           obtain rfl:=Option.some.inj H
           have p9:0 ≤ (x3_2:Int):=qd
           have q9:x3_2 < (a0.size:Int):=qd
           have hx9:=bt_at a0 x3_2
           replace p9:=eq_true p9
           replace q9:=eq_true q9
           go_wp2_with (first|((with_reducible refine zU (f:=50) rfl ?_);refine gL (some 28) Tryd.func50 #[.int .i64 (wrap64 (bt a0 x3_2)),.int .i64 97,.int .i64 122] ?_;(with_reducible refine (foretellref_In.calls (wrap64 (bt a0 x3_2)) 97 122 true _ A10.out).mono ?_);rintro e w' ⟨rfl,⟨nd,rfl⟩⟩;refine ⟨_,rfl,?_⟩;have p11:0 ≤ (x3_2:Int):=qd;have q11:x3_2 < (a0.size:Int):=qd;have hx11:=bt_at a0 x3_2;replace p11:=eq_true p11;replace q11:=eq_true q11)|((with_reducible refine zU (f:=50) rfl ?_);refine gL (some 33) Tryd.func50 #[.int .i64 (wrap64 (bt a0 x3_2)),.int .i64 48,.int .i64 57] ?_;(with_reducible refine (foretellref_In.calls (wrap64 (bt a0 x3_2)) 48 57 true _ A12.out).mono ?_);rintro e w' ⟨rfl,⟨nd,rfl⟩⟩;refine ⟨_,rfl,?_⟩))
           go_ret
           exact ⟨qr,qt⟩
          ·replace c15:=Bool.eq_false_iff.mpr c15
           subst c15
           have H1:(foretellref_NameMay.l0 k2 a0 (wrap64 (x3_2 + 1))) = some r:=by rw [if_neg (show ¬ (false = true) by decide)] at H;exact H
           clear H
           have H:=H1
           clear H1
           have H':=zA H
           clear H
           have p9:0 ≤ (x3_2:Int):=qd
           have q9:x3_2 < (a0.size:Int):=qd
           have hx9:=bt_at a0 x3_2
           replace p9:=eq_true p9
           replace q9:=eq_true q9
           go_wp2_with (first|((with_reducible refine zU (f:=50) rfl ?_);refine gL (some 28) Tryd.func50 #[.int .i64 (wrap64 (bt a0 x3_2)),.int .i64 97,.int .i64 122] ?_;(with_reducible refine (foretellref_In.calls (wrap64 (bt a0 x3_2)) 97 122 true _ A10.out).mono ?_);rintro e w' ⟨rfl,⟨nd,rfl⟩⟩;refine ⟨_,rfl,?_⟩;have p11:0 ≤ (x3_2:Int):=qd;have q11:x3_2 < (a0.size:Int):=qd;have hx11:=bt_at a0 x3_2;replace p11:=eq_true p11;replace q11:=eq_true q11)|((with_reducible refine zU (f:=50) rfl ?_);refine gL (some 33) Tryd.func50 #[.int .i64 (wrap64 (bt a0 x3_2)),.int .i64 48,.int .i64 57] ?_;(with_reducible refine (foretellref_In.calls (wrap64 (bt a0 x3_2)) 48 57 false _ A12.out).mono ?_);rintro e w' ⟨rfl,⟨nd,rfl⟩⟩;refine ⟨_,rfl,?_⟩))
           go_roundg k2
           case measure=>have:=HJ1.out;have:=HK2.out;omega
           case rel=>exact ⟨(wrap64 (x3_2 + 1)),qr,H',⟨qp HJ1 HK2⟩,qt⟩
         ·rw [if_neg c14] at H
          have c14b0:(x3_2 == 0) = false:=beq_eq_false_iff_ne.mpr c14
          have c14b1:(x3_2 != 0) = true:=bne_iff_ne.mpr c14
          have H':=zA H
          clear H
          have p9:0 ≤ (x3_2:Int):=qd
          have q9:x3_2 < (a0.size:Int):=qd
          have hx9:=bt_at a0 x3_2
          replace p9:=eq_true p9
          replace q9:=eq_true q9
          go_wp2_with (first|((with_reducible refine zU (f:=50) rfl ?_);refine gL (some 28) Tryd.func50 #[.int .i64 (wrap64 (bt a0 x3_2)),.int .i64 97,.int .i64 122] ?_;(with_reducible refine (foretellref_In.calls (wrap64 (bt a0 x3_2)) 97 122 true _ A10.out).mono ?_);rintro e w' ⟨rfl,⟨nd,rfl⟩⟩;refine ⟨_,rfl,?_⟩;have p11:0 ≤ (x3_2:Int):=qd;have q11:x3_2 < (a0.size:Int):=qd;have hx11:=bt_at a0 x3_2;replace p11:=eq_true p11;replace q11:=eq_true q11)|((with_reducible refine zU (f:=50) rfl ?_);refine gL (some 33) Tryd.func50 #[.int .i64 (wrap64 (bt a0 x3_2)),.int .i64 48,.int .i64 57] ?_;(with_reducible refine (foretellref_In.calls (wrap64 (bt a0 x3_2)) 48 57 t295 _ A12.out).mono ?_);rintro e w' ⟨rfl,⟨nd,rfl⟩⟩;refine ⟨_,rfl,?_⟩))
          go_roundg k2
          case measure=>have:=HJ1.out;have:=HK2.out;omega
          case rel=>exact ⟨(wrap64 (x3_2 + 1)),qr,H',⟨qp HJ1 HK2⟩,qt⟩
        ·replace c13:=Bool.eq_false_iff.mpr c13
         subst c13
         have H1:(if t295 = true then (if x3_2 = 0 then (some false) else (foretellref_NameMay.l0 k2 a0 (wrap64 (x3_2 + 1)))) else (some false)) = some r:=by rw [if_neg (show ¬ (false = true) by decide)] at H;exact H
         clear H
         have H:=H1
         clear H1
         by_cases c16:t295 = true
         ·subst c16
          have H1:(if x3_2 = 0 then (some false) else (foretellref_NameMay.l0 k2 a0 (wrap64 (x3_2 + 1)))) = some r:=by rw [if_pos rfl] at H;exact H
          clear H
          have H:=H1
          clear H1
          by_cases c17:x3_2 = 0
          ·rw [if_pos c17] at H
           have c17b0:(x3_2 == 0) = true:=beq_iff_eq.mpr c17
           have c17b1:(x3_2 != 0) = false:=bne_eq_false_iff_eq.mpr c17
           clear c17
           obtain rfl:=Option.some.inj H
           have p9:0 ≤ (x3_2:Int):=qd
           have q9:x3_2 < (a0.size:Int):=qd
           have hx9:=bt_at a0 x3_2
           replace p9:=eq_true p9
           replace q9:=eq_true q9
           go_wp2_with (first|((with_reducible refine zU (f:=50) rfl ?_);refine gL (some 28) Tryd.func50 #[.int .i64 (wrap64 (bt a0 x3_2)),.int .i64 97,.int .i64 122] ?_;(with_reducible refine (foretellref_In.calls (wrap64 (bt a0 x3_2)) 97 122 false _ A10.out).mono ?_);rintro e w' ⟨rfl,⟨nd,rfl⟩⟩;refine ⟨_,rfl,?_⟩;have p11:0 ≤ (x3_2:Int):=qd;have q11:x3_2 < (a0.size:Int):=qd;have hx11:=bt_at a0 x3_2;replace p11:=eq_true p11;replace q11:=eq_true q11)|((with_reducible refine zU (f:=50) rfl ?_);refine gL (some 33) Tryd.func50 #[.int .i64 (wrap64 (bt a0 x3_2)),.int .i64 48,.int .i64 57] ?_;(with_reducible refine (foretellref_In.calls (wrap64 (bt a0 x3_2)) 48 57 true _ A12.out).mono ?_);rintro e w' ⟨rfl,⟨nd,rfl⟩⟩;refine ⟨_,rfl,?_⟩))
           go_ret
           exact ⟨qr,qt⟩
          ·rw [if_neg c17] at H
           have c17b0:(x3_2 == 0) = false:=beq_eq_false_iff_ne.mpr c17
           have c17b1:(x3_2 != 0) = true:=bne_iff_ne.mpr c17
           have H':=zA H
           clear H
           have p9:0 ≤ (x3_2:Int):=qd
           have q9:x3_2 < (a0.size:Int):=qd
           have hx9:=bt_at a0 x3_2
           replace p9:=eq_true p9
           replace q9:=eq_true q9
           go_wp2_with (first|((with_reducible refine zU (f:=50) rfl ?_);refine gL (some 28) Tryd.func50 #[.int .i64 (wrap64 (bt a0 x3_2)),.int .i64 97,.int .i64 122] ?_;(with_reducible refine (foretellref_In.calls (wrap64 (bt a0 x3_2)) 97 122 false _ A10.out).mono ?_);rintro e w' ⟨rfl,⟨nd,rfl⟩⟩;refine ⟨_,rfl,?_⟩;have p11:0 ≤ (x3_2:Int):=qd;have q11:x3_2 < (a0.size:Int):=qd;have hx11:=bt_at a0 x3_2;replace p11:=eq_true p11;replace q11:=eq_true q11)|((with_reducible refine zU (f:=50) rfl ?_);refine gL (some 33) Tryd.func50 #[.int .i64 (wrap64 (bt a0 x3_2)),.int .i64 48,.int .i64 57] ?_;(with_reducible refine (foretellref_In.calls (wrap64 (bt a0 x3_2)) 48 57 true _ A12.out).mono ?_);rintro e w' ⟨rfl,⟨nd,rfl⟩⟩;refine ⟨_,rfl,?_⟩))
           go_roundg k2
           case measure=>have:=HJ1.out;have:=HK2.out;omega
           case rel=>exact ⟨(wrap64 (x3_2 + 1)),qr,H',⟨qp HJ1 HK2⟩,qt⟩
         ·replace c16:=Bool.eq_false_iff.mpr c16
          subst c16
          have H1:(some false) = some r:=by rw [if_neg (show ¬ (false = true) by decide)] at H;exact H
          clear H
          have H:=H1
          clear H1
          obtain rfl:=Option.some.inj H
          have p9:0 ≤ (x3_2:Int):=qd
          have q9:x3_2 < (a0.size:Int):=qd
          have hx9:=bt_at a0 x3_2
          replace p9:=eq_true p9
          replace q9:=eq_true q9
          go_wp2_with (first|((with_reducible refine zU (f:=50) rfl ?_);refine gL (some 28) Tryd.func50 #[.int .i64 (wrap64 (bt a0 x3_2)),.int .i64 97,.int .i64 122] ?_;(with_reducible refine (foretellref_In.calls (wrap64 (bt a0 x3_2)) 97 122 false _ A10.out).mono ?_);rintro e w' ⟨rfl,⟨nd,rfl⟩⟩;refine ⟨_,rfl,?_⟩;have p11:0 ≤ (x3_2:Int):=qd;have q11:x3_2 < (a0.size:Int):=qd;have hx11:=bt_at a0 x3_2;replace p11:=eq_true p11;replace q11:=eq_true q11)|((with_reducible refine zU (f:=50) rfl ?_);refine gL (some 33) Tryd.func50 #[.int .i64 (wrap64 (bt a0 x3_2)),.int .i64 48,.int .i64 57] ?_;(with_reducible refine (foretellref_In.calls (wrap64 (bt a0 x3_2)) 48 57 false _ A12.out).mono ?_);rintro e w' ⟨rfl,⟨nd,rfl⟩⟩;refine ⟨_,rfl,?_⟩))
          go_ret
          exact ⟨qr,qt⟩
       ·exact absurd H (by simp)
      ·obtain rfl:=Option.some.inj H
       go_wp2
       go_ret
       exact ⟨qr,qt⟩
end Go.Proofs.YthffpjkkmkjplaaDoor.S
namespace Go.Proofs.YthffpjkkmkjplaaDoor.S
open Go.Proofs.YthffpjkkmkjplaaDoor.Al
open Option renaming bind_eq_some_iff → zb
open Go.Proofs.YthffpjkkmkjplaaDoorW.PrintWords renaming below_step → zH, blk_frozen → zJ, blk_alloc → zK, blk_drewN → zL, blk_drew → zM, blk_put → zO, gate_dst → zV
open Go.Proofs.YthffpjkkmkjplaaDoor.Sq
open Go.RowKit Go.Proofs.YthffpjkkmkjplaaDoorW.PrintWords Go.Proofs.YthffpjkkmkjplaaDoorW.PrintLast Go.Proofs.YthffpjkkmkjplaaDoorW.PrintMore
attribute [local go_sem] max2_int min2_int max_two min_two max_three min_three max_four min_four
set_option linter.unusedVariables false
set_option linter.unusedSimpArgs false
mutual
def foretellref_variablesFault.l0:Nat → List (S86) → Int → Int → Option (Int)
 | 0,_,_,_=>none
 | k + 1,x0,x3,x4=>if x4 < (x0.length:Int) then (if 0 ≤ x4 then ((foretellref_NameMay.f k ((rd_T86 x0 x4).f0)).bind fun t298=>(if t298 = true then (foretellref_variablesFault.l1 k x0 x3 x4 0 ((rd_T86 x0 x4).f0) ((rd_T86 x0 x4).f1) ((rd_T86 x0 x4).f2) ((rd_T86 x0 x4).f3)) else (some 6))) else (none)) else (some 0)
def foretellref_variablesFault.l1:Nat → List (S86) → Int → Int → Int → ByteArray → Int → Int → Int → Option (Int)
 | 0,_,_,_,_,_,_,_,_=>none
 | k + 1,x0,x3,x4,x6,x298000,x298001,x298002,x298003=>if x6 < x4 then (if 0 ≤ x6 then (if x6 < (x0.length:Int) then (if ((rd_T86 x0 x6).f0).toList = x298000.toList then (some 7) else (foretellref_variablesFault.l1 k x0 x3 x4 (wrap64 (x6 + 1)) x298000 x298001 x298002 x298003)) else (none)) else (none)) else ((foretellref_In.f x298001 (-1000) 1000).bind fun t300=>(if t300 = true then ((foretellref_In.f x298002 x298001 1000).bind fun t301=>(if t301 = true then ((foretellref_In.f x298003 x298001 x298002).bind fun t302=>(foretellref_variablesFault.j2 k x0 x3 x4 (!t302) x298000 x298001 x298002 x298003)) else (foretellref_variablesFault.j2 k x0 x3 x4 true x298000 x298001 x298002 x298003))) else (foretellref_variablesFault.j2 k x0 x3 x4 true x298000 x298001 x298002 x298003)))
def foretellref_variablesFault.j2:Nat → List (S86) → Int → Int → Bool → ByteArray → Int → Int → Int → Option (Int)
 | 0,_,_,_,_,_,_,_,_=>none
 | k + 1,x0,x3,x4,x58,x298000,x298001,x298002,x298003=>if x58 = true then (some 2) else (if (wrap64 (x298002 - x298001)) > 63 then (some 1) else (if (wrap64 (x3 * (wrap64 ((wrap64 (x298002 - x298001)) + 1)))) > 4096 then (some 1) else (foretellref_variablesFault.l0 k x0 (wrap64 (x3 * (wrap64 ((wrap64 (x298002 - x298001)) + 1)))) (wrap64 (x4 + 1)))))
end
def foretellref_variablesFault.f (k:Nat) (l0:List (S86)):Option (Int):=if (l0.length:Int) > 6 then (some 1) else (foretellref_variablesFault.l0 k l0 1 0)
theorem foretellref_variablesFault.mono_l:∀ k,(∀ y0 y1 y2,LeO (foretellref_variablesFault.l0 k y0 y1 y2) (foretellref_variablesFault.l0 (k + 1) y0 y1 y2))∧(∀ y0 y1 y2 y3 y4 y5 y6 y7,LeO (foretellref_variablesFault.l1 k y0 y1 y2 y3 y4 y5 y6 y7) (foretellref_variablesFault.l1 (k + 1) y0 y1 y2 y3 y4 y5 y6 y7))∧(∀ y0 y1 y2 y3 y4 y5 y6 y7,LeO (foretellref_variablesFault.j2 k y0 y1 y2 y3 y4 y5 y6 y7) (foretellref_variablesFault.j2 (k + 1) y0 y1 y2 y3 y4 y5 y6 y7))
 | 0=>⟨fun _ _ _ r h=>by simp [foretellref_variablesFault.l0] at h,fun _ _ _ _ _ _ _ _ r h=>by simp [foretellref_variablesFault.l1] at h,fun _ _ _ _ _ _ _ _ r h=>by simp [foretellref_variablesFault.j2] at h⟩
 | k + 1=>by
  obtain ⟨ih0,ih1,ih2⟩:=foretellref_variablesFault.mono_l k
  refine ⟨?_,?_,?_⟩
  ·intro y0 y1 y2
   unfold foretellref_variablesFault.l0
   exact qM @foretellref_NameMay.mono
  ·intro y0 y1 y2 y3 y4 y5 y6 y7
   unfold foretellref_variablesFault.l1
   exact qM @foretellref_NameMay.mono
  ·intro y0 y1 y2 y3 y4 y5 y6 y7
   unfold foretellref_variablesFault.j2
   exact qM @foretellref_NameMay.mono
theorem foretellref_variablesFault.mono:∀ a0 k,LeO (foretellref_variablesFault.f k a0) (foretellref_variablesFault.f (k + 1) a0):=by
 intro a0 k
 obtain ⟨ih0,ih1,ih2⟩:=foretellref_variablesFault.mono_l k
 unfold foretellref_variablesFault.f
 exact qM @foretellref_NameMay.mono
set_option maxHeartbeats 8000000 in
set_option maxRecDepth 100000 in
theorem foretellref_variablesFault.calls (k:Nat) (A0:Option Addr) (c0:Nat) (l0:List (S86)) (r:Int) (w:World) (hr0:Kd.C k86 w A0 l0.length l0) (hc0:l0.length ≤ c0) (h:foretellref_variablesFault.f k l0 = some r) :
  Calls Tryd.prog 104 #[.slice A0 l0.length c0] w fun e w'=>e = .returned (.int .i64 r)∧Below w.heap.size w w':=by
 have hu86:=Tryd.underlying86
 have HR0:=zA hr0
 have HC0:=zA hc0
 clear hr0 hc0
 have HB:=zA (Below.refl w.heap.size w)
 have H:(if (l0.length:Int) > 6 then (some 1) else (foretellref_variablesFault.l0 k l0 1 0)) = some r:=h
 clear h
 by_cases c2:(l0.length:Int) > 6
 ·rw [if_pos c2] at H
  have c2b0:decide (6 < (l0.length:Int)) = true:=zQ c2
  have c2b1:decide (6 < l0.length) = true:=zQ (by omega)
  clear c2
  obtain rfl:=Option.some.inj H
  go_enter Tryd.func104,Tryd.ntmps104
  go_wp2
  repeat (go_quiet (fail);try go_wp2)
  go_ret
  exact ⟨qe,qb⟩
 ·rw [if_neg c2] at H
  have c2b0:decide (6 < (l0.length:Int)) = false:=zR c2
  have c2b1:decide (6 < l0.length) = false:=zR (by omega)
  clear c2
  have H':=zA H
  clear H
  go_enter Tryd.func104,Tryd.ntmps104
  go_wp2
  repeat (go_quiet (fail);try go_wp2)
  go_loopg [3,4] k (fun kq v3 v4 w'=>∃ (x3_1:Int) (x4_1:Int),v3 = .int .i64 x3_1∧v4 = .int .i64 x4_1∧Aside0 (foretellref_variablesFault.l0 kq l0 x3_1 x4_1 = some r)∧Aside0 (kq ≤ k)∧Aside0 (Below w.heap.size w w'))
  case atStart=>exact ⟨(1),(0),qr,qr,H',⟨Nat.le_refl _⟩,⟨qb⟩⟩
  case round =>
   clear H'
   try clear c1
   try clear c2
   try clear c2b0
   try clear c2b1
   try clear p2
   obtain ⟨x3_1,x4_1,rfl,rfl,HA,HK1,HB⟩:=hrel
   cases gk with
   | zero=>exact absurd HA.out (by simp [foretellref_variablesFault.l0])
   | succ k1 =>
    have H:=HA.out
    clear HA
    simp only [foretellref_variablesFault.l0] at H
    rcases qj H with ⟨c3b0,H⟩|⟨c3b0,H⟩
    ·rcases qj H with ⟨c4b0,H⟩|⟨c4,H⟩
     ·replace H:=zb.mp H
      obtain ⟨t298,A50,H⟩:=H
      replace H:(if t298 = true then (foretellref_variablesFault.l1 k1 l0 x3_1 x4_1 0 ((rd_T86 l0 x4_1).f0) ((rd_T86 l0 x4_1).f1) ((rd_T86 l0 x4_1).f2) ((rd_T86 l0 x4_1).f3)) else (some 6)) = some r:=H
      have A5:=zA A50
      clear A50
      by_cases c6:t298 = true
      ·subst c6
       have H1:(foretellref_variablesFault.l1 k1 l0 x3_1 x4_1 0 ((rd_T86 l0 x4_1).f0) ((rd_T86 l0 x4_1).f1) ((rd_T86 l0 x4_1).f2) ((rd_T86 l0 x4_1).f3)) = some r:=by rw [if_pos rfl] at H;exact H
       clear H
       have H:=H1
       clear H1
       have H':=zA H
       clear H
       have p296:0 ≤ (x4_1:Int):=qd
       have q296:x4_1 < (l0.length:Int):=qd
       obtain ⟨ad296,e296,hx296_0,hx296_1,hx296_2,hx296_3⟩:=at_T86 HR0.out x4_1 p296 q296
       cases e296
       replace hx296_0:=qy HB hx296_0
       replace hx296_1:=qy HB hx296_1
       replace hx296_2:=qy HB hx296_2
       replace hx296_3:=qy HB hx296_3
       replace p296:=eq_true p296
       replace q296:=eq_true q296
       go_wp2_with (first|((with_reducible refine zV (N:=5) rfl ?_);refine bq 5 (cs:=#[.string (⟨#[]⟩:ByteArray),.int .i64 0,.int .i64 0,.int .i64 0]) (t:=86) ?_;intro gb297 hg w7 hbox hb;have BK297:=zA (hbox);have GW297:=zA (qg hg);have GE297:=zA (qg hg);replace HB:=zA (zH qb hb);clear hb hbox hg;have hcz8_0:=qx BK297 0;have hcz8_1:=qx BK297 1;have hcz8_2:=qx BK297 2;have hcz8_3:=qx BK297 3;have hfz8_0:=zJ BK297.out 0;have hfz8_1:=zJ BK297.out 1;have hfz8_2:=zJ BK297.out 2;have hfz8_3:=zJ BK297.out 3)|(go_at_call 111;(with_reducible refine (foretellref_NameMay.calls k1 ((rd_T86 l0 x4_1).f0) true _ A5.out).mono ?_);rintro e w' ⟨rfl,⟨nd,rfl⟩⟩;(try first|exact ⟨rfl,_,World.drewN_drewN _ _ _⟩|exact ⟨rfl,_,Eq.trans (World.drewN_drewN _ _ _) (congrArg (World.drewN _) (Nat.add_assoc _ _ _))⟩)))
       repeat (go_quiet (first|((with_reducible refine zV (N:=5) rfl ?_);refine bq 5 (cs:=#[.string (⟨#[]⟩:ByteArray),.int .i64 0,.int .i64 0,.int .i64 0]) (t:=86) ?_;intro gb297 hg w7 hbox hb;have BK297:=zA (hbox);have GW297:=zA (qg hg);have GE297:=zA (qg hg);replace HB:=zA (zH qb hb);clear hb hbox hg;have hcz8_0:=qx BK297 0;have hcz8_1:=qx BK297 1;have hcz8_2:=qx BK297 2;have hcz8_3:=qx BK297 3;have hfz8_0:=zJ BK297.out 0;have hfz8_1:=zJ BK297.out 1;have hfz8_2:=zJ BK297.out 2;have hfz8_3:=zJ BK297.out 3)|(go_at_call 111;(with_reducible refine (foretellref_NameMay.calls k1 ((rd_T86 l0 x4_1).f0) true _ A5.out).mono ?_);rintro e w' ⟨rfl,⟨nd,rfl⟩⟩;(try first|exact ⟨rfl,_,World.drewN_drewN _ _ _⟩|exact ⟨rfl,_,Eq.trans (World.drewN_drewN _ _ _) (congrArg (World.drewN _) (Nat.add_assoc _ _ _))⟩)));try go_wp2_with (first|((with_reducible refine zV (N:=5) rfl ?_);refine bq 5 (cs:=#[.string (⟨#[]⟩:ByteArray),.int .i64 0,.int .i64 0,.int .i64 0]) (t:=86) ?_;intro gb297 hg w7 hbox hb;have BK297:=zA (hbox);have GW297:=zA (qg hg);have GE297:=zA (qg hg);replace HB:=zA (zH qb hb);clear hb hbox hg;have hcz8_0:=qx BK297 0;have hcz8_1:=qx BK297 1;have hcz8_2:=qx BK297 2;have hcz8_3:=qx BK297 3;have hfz8_0:=zJ BK297.out 0;have hfz8_1:=zJ BK297.out 1;have hfz8_2:=zJ BK297.out 2;have hfz8_3:=zJ BK297.out 3)|(go_at_call 111;(with_reducible refine (foretellref_NameMay.calls k1 ((rd_T86 l0 x4_1).f0) true _ A5.out).mono ?_);rintro e w' ⟨rfl,⟨nd,rfl⟩⟩;(try first|exact ⟨rfl,_,World.drewN_drewN _ _ _⟩|exact ⟨rfl,_,Eq.trans (World.drewN_drewN _ _ _) (congrArg (World.drewN _) (Nat.add_assoc _ _ _))⟩))))
       go_loopg [6] k1 (fun kq v6 w'=>∃ (x6_2:Int),v6 = .int .i64 x6_2∧Aside0 (foretellref_variablesFault.l1 kq l0 x3_1 x4_1 x6_2 ((rd_T86 l0 x4_1).f0) ((rd_T86 l0 x4_1).f1) ((rd_T86 l0 x4_1).f2) ((rd_T86 l0 x4_1).f3) = some r)∧Aside0 (kq ≤ k1)∧Aside0 (w'.heap[gb297]? = some (.cells #[.string ((rd_T86 l0 x4_1).f0),.int .i64 ((rd_T86 l0 x4_1).f1),.int .i64 ((rd_T86 l0 x4_1).f2),.int .i64 ((rd_T86 l0 x4_1).f3)] 86 (0,0)))∧Aside0 (Below w.heap.size w w'))
       case atStart=>exact ⟨(0),qr,H',⟨Nat.le_refl _⟩,⟨by (with_reducible repeat (first|refine zL ?_ _|refine zM ?_|refine zK ?_ _));refine zO (cs:=#[.string ((rd_T86 l0 x4_1).f0),.int .i64 ((rd_T86 l0 x4_1).f1),.int .i64 ((rd_T86 l0 x4_1).f2),.int .i64 0]) ?_ 3 _ rfl;(with_reducible repeat (first|refine zL ?_ _|refine zM ?_|refine zK ?_ _));refine zO (cs:=#[.string ((rd_T86 l0 x4_1).f0),.int .i64 ((rd_T86 l0 x4_1).f1),.int .i64 0,.int .i64 0]) ?_ 2 _ rfl;(with_reducible repeat (first|refine zL ?_ _|refine zM ?_|refine zK ?_ _));refine zO (cs:=#[.string ((rd_T86 l0 x4_1).f0),.int .i64 0,.int .i64 0,.int .i64 0]) ?_ 1 _ rfl;(with_reducible repeat (first|refine zL ?_ _|refine zM ?_|refine zK ?_ _));refine zO (cs:=#[.string (⟨#[]⟩:ByteArray),.int .i64 0,.int .i64 0,.int .i64 0]) ?_ 0 _ rfl;(with_reducible repeat (first|refine zL ?_ _|refine zM ?_|refine zK ?_ _));exact BK297.out⟩,⟨qb⟩⟩
       case round =>
        clear H'
        try clear c1
        try clear c2
        try clear c2b0
        try clear c2b1
        try clear p2
        try clear q2
        try clear hx2
        try clear c3
        try clear c3b0
        try clear c4
        try clear c4b0
        try clear c6
        try clear hcz8_0
        try clear hcz8_1
        try clear hcz8_2
        try clear hcz8_3
        try clear hfz8_0
        try clear hfz8_1
        try clear hfz8_2
        try clear hfz8_3
        try clear hx296_0
        try clear hx296_1
        try clear hx296_2
        try clear hx296_3
        try clear p2
        try clear p296
        try clear q296
        obtain ⟨x6_2,rfl,HA,HK2,BK297,HB⟩:=hrel
        cases gk with
        | zero=>exact absurd HA.out (by simp [foretellref_variablesFault.l1])
        | succ k2 =>
         have H:=HA.out
         clear HA
         simp only [foretellref_variablesFault.l1] at H
         rcases qj H with ⟨c9b0,H⟩|⟨c9b0,H⟩
         ·rcases qj H with ⟨c10b0,H⟩|⟨c10,H⟩
          ·rcases qj H with ⟨c11b0,H⟩|⟨c11,H⟩
           ·by_cases c12:((rd_T86 l0 x6_2).f0).toList = ((rd_T86 l0 x4_1).f0).toList
            ·rw [if_pos c12] at H
             have c12b0:(((rd_T86 l0 x6_2).f0).toList == ((rd_T86 l0 x4_1).f0).toList) = true:=beq_iff_eq.mpr c12
             have c12b1:(((rd_T86 l0 x6_2).f0).toList != ((rd_T86 l0 x4_1).f0).toList) = false:=bne_eq_false_iff_eq.mpr c12
             clear c12
             obtain rfl:=Option.some.inj H
             have p299:0 ≤ (x6_2:Int):=qd
             have q299:x6_2 < (l0.length:Int):=qd
             obtain ⟨ad299,e299,hx299_0,hx299_1,hx299_2,hx299_3⟩:=at_T86 HR0.out x6_2 p299 q299
             obtain rfl:ad296 = ad299:=(by injection e299)
             replace hx299_0:=qy HB hx299_0
             replace hx299_1:=qy HB hx299_1
             replace hx299_2:=qy HB hx299_2
             replace hx299_3:=qy HB hx299_3
             replace p299:=eq_true p299
             replace q299:=eq_true q299
             have hcz13_0:=qx BK297 0
             have hcz13_1:=qx BK297 1
             have hcz13_2:=qx BK297 2
             have hcz13_3:=qx BK297 3
             have hfz13_0:=zJ BK297.out 0
             have hfz13_1:=zJ BK297.out 1
             have hfz13_2:=zJ BK297.out 2
             have hfz13_3:=zJ BK297.out 3
             go_wp2
             repeat (go_quiet (fail);try go_wp2)
             go_ret
             exact ⟨qe,qb⟩
            ·rw [if_neg c12] at H
             have c12b0:(((rd_T86 l0 x6_2).f0).toList == ((rd_T86 l0 x4_1).f0).toList) = false:=beq_eq_false_iff_ne.mpr c12
             have c12b1:(((rd_T86 l0 x6_2).f0).toList != ((rd_T86 l0 x4_1).f0).toList) = true:=bne_iff_ne.mpr c12
             have H':=zA H
             clear H
             have p299:0 ≤ (x6_2:Int):=qd
             have q299:x6_2 < (l0.length:Int):=qd
             obtain ⟨ad299,e299,hx299_0,hx299_1,hx299_2,hx299_3⟩:=at_T86 HR0.out x6_2 p299 q299
             obtain rfl:ad296 = ad299:=(by injection e299)
             replace hx299_0:=qy HB hx299_0
             replace hx299_1:=qy HB hx299_1
             replace hx299_2:=qy HB hx299_2
             replace hx299_3:=qy HB hx299_3
             replace p299:=eq_true p299
             replace q299:=eq_true q299
             have hcz14_0:=qx BK297 0
             have hcz14_1:=qx BK297 1
             have hcz14_2:=qx BK297 2
             have hcz14_3:=qx BK297 3
             have hfz14_0:=zJ BK297.out 0
             have hfz14_1:=zJ BK297.out 1
             have hfz14_2:=zJ BK297.out 2
             have hfz14_3:=zJ BK297.out 3
             go_wp2
             repeat (go_quiet (fail);try go_wp2)
             go_roundg k2
             case measure=>have:=HK1.out;have:=HK2.out;omega
             case rel=>exact ⟨(wrap64 (x6_2 + 1)),qr,H',⟨qp HK1 HK2⟩,⟨qk BK297⟩,⟨qb⟩⟩
           ·exact absurd H (by simp)
          ·exact absurd H (by simp)
         ·have HC15:=zA H
          clear H
          go_upto_region 15 with (fail)
          repeat (go_quiet (fail);go_upto_region 15 with (fail))
          go_cut [58] (fun v58 wc=>∃ (kq:Nat) (x58_14:Bool),v58 = .bool x58_14∧Aside0 (foretellref_variablesFault.j2 kq l0 x3_1 x4_1 x58_14 ((rd_T86 l0 x4_1).f0) ((rd_T86 l0 x4_1).f1) ((rd_T86 l0 x4_1).f2) ((rd_T86 l0 x4_1).f3) = some r)∧Aside0 (kq ≤ k2)∧Aside0 (wc.heap[gb297]? = some (.cells #[.string ((rd_T86 l0 x4_1).f0),.int .i64 ((rd_T86 l0 x4_1).f1),.int .i64 ((rd_T86 l0 x4_1).f2),.int .i64 ((rd_T86 l0 x4_1).f3)] 86 (0,0)))∧Aside0 (Below w.heap.size w wc))
          case first =>
           have H:=HC15.out
           clear HC15
           replace H:=zb.mp H
           obtain ⟨t300,A160,H⟩:=H
           replace H:(if t300 = true then ((foretellref_In.f ((rd_T86 l0 x4_1).f2) ((rd_T86 l0 x4_1).f1) 1000).bind fun t301=>(if t301 = true then ((foretellref_In.f ((rd_T86 l0 x4_1).f3) ((rd_T86 l0 x4_1).f1) ((rd_T86 l0 x4_1).f2)).bind fun t302=>(foretellref_variablesFault.j2 k2 l0 x3_1 x4_1 (!t302) ((rd_T86 l0 x4_1).f0) ((rd_T86 l0 x4_1).f1) ((rd_T86 l0 x4_1).f2) ((rd_T86 l0 x4_1).f3))) else (foretellref_variablesFault.j2 k2 l0 x3_1 x4_1 true ((rd_T86 l0 x4_1).f0) ((rd_T86 l0 x4_1).f1) ((rd_T86 l0 x4_1).f2) ((rd_T86 l0 x4_1).f3)))) else (foretellref_variablesFault.j2 k2 l0 x3_1 x4_1 true ((rd_T86 l0 x4_1).f0) ((rd_T86 l0 x4_1).f1) ((rd_T86 l0 x4_1).f2) ((rd_T86 l0 x4_1).f3))) = some r:=H
           have A16:=zA A160
           clear A160
           by_cases c17:t300 = true
           ·subst c17
            have H1:((foretellref_In.f ((rd_T86 l0 x4_1).f2) ((rd_T86 l0 x4_1).f1) 1000).bind fun t301=>(if t301 = true then ((foretellref_In.f ((rd_T86 l0 x4_1).f3) ((rd_T86 l0 x4_1).f1) ((rd_T86 l0 x4_1).f2)).bind fun t302=>(foretellref_variablesFault.j2 k2 l0 x3_1 x4_1 (!t302) ((rd_T86 l0 x4_1).f0) ((rd_T86 l0 x4_1).f1) ((rd_T86 l0 x4_1).f2) ((rd_T86 l0 x4_1).f3))) else (foretellref_variablesFault.j2 k2 l0 x3_1 x4_1 true ((rd_T86 l0 x4_1).f0) ((rd_T86 l0 x4_1).f1) ((rd_T86 l0 x4_1).f2) ((rd_T86 l0 x4_1).f3)))) = some r:=by rw [if_pos rfl] at H;exact H
            clear H
            have H:=H1
            clear H1
            replace H:=zb.mp H
            obtain ⟨t301,A180,H⟩:=H
            replace H:(if t301 = true then ((foretellref_In.f ((rd_T86 l0 x4_1).f3) ((rd_T86 l0 x4_1).f1) ((rd_T86 l0 x4_1).f2)).bind fun t302=>(foretellref_variablesFault.j2 k2 l0 x3_1 x4_1 (!t302) ((rd_T86 l0 x4_1).f0) ((rd_T86 l0 x4_1).f1) ((rd_T86 l0 x4_1).f2) ((rd_T86 l0 x4_1).f3))) else (foretellref_variablesFault.j2 k2 l0 x3_1 x4_1 true ((rd_T86 l0 x4_1).f0) ((rd_T86 l0 x4_1).f1) ((rd_T86 l0 x4_1).f2) ((rd_T86 l0 x4_1).f3))) = some r:=H
            have A18:=zA A180
            clear A180
            by_cases c19:t301 = true
            ·subst c19
             have H1:((foretellref_In.f ((rd_T86 l0 x4_1).f3) ((rd_T86 l0 x4_1).f1) ((rd_T86 l0 x4_1).f2)).bind fun t302=>(foretellref_variablesFault.j2 k2 l0 x3_1 x4_1 (!t302) ((rd_T86 l0 x4_1).f0) ((rd_T86 l0 x4_1).f1) ((rd_T86 l0 x4_1).f2) ((rd_T86 l0 x4_1).f3))) = some r:=by rw [if_pos rfl] at H;exact H
             clear H
             have H:=H1
             clear H1
             replace H:=zb.mp H
             obtain ⟨t302,A200,H⟩:=H
             replace H:(foretellref_variablesFault.j2 k2 l0 x3_1 x4_1 (!t302) ((rd_T86 l0 x4_1).f0) ((rd_T86 l0 x4_1).f1) ((rd_T86 l0 x4_1).f2) ((rd_T86 l0 x4_1).f3)) = some r:=H
             have A20:=zA A200
             clear A200
             have H':=zA H
             clear H
             have hcz21_0:=qx BK297 0
             have hcz21_1:=qx BK297 1
             have hcz21_2:=qx BK297 2
             have hcz21_3:=qx BK297 3
             have hfz21_0:=zJ BK297.out 0
             have hfz21_1:=zJ BK297.out 1
             have hfz21_2:=zJ BK297.out 2
             have hfz21_3:=zJ BK297.out 3
             go_wp2_with (first|(go_at_call 50;(with_reducible refine (foretellref_In.calls ((rd_T86 l0 x4_1).f1) (-1000) 1000 true _ A16.out).mono ?_);rintro e w' ⟨rfl,⟨nd,rfl⟩⟩;(try first|exact ⟨rfl,_,World.drewN_drewN _ _ _⟩|exact ⟨rfl,_,Eq.trans (World.drewN_drewN _ _ _) (congrArg (World.drewN _) (Nat.add_assoc _ _ _))⟩))|(go_at_call 50;(with_reducible refine (foretellref_In.calls ((rd_T86 l0 x4_1).f2) ((rd_T86 l0 x4_1).f1) 1000 true _ A18.out).mono ?_);rintro e w' ⟨rfl,⟨nd,rfl⟩⟩;(try first|exact ⟨rfl,_,World.drewN_drewN _ _ _⟩|exact ⟨rfl,_,Eq.trans (World.drewN_drewN _ _ _) (congrArg (World.drewN _) (Nat.add_assoc _ _ _))⟩))|(go_at_call 50;(with_reducible refine (foretellref_In.calls ((rd_T86 l0 x4_1).f3) ((rd_T86 l0 x4_1).f1) ((rd_T86 l0 x4_1).f2) t302 _ A20.out).mono ?_);rintro e w' ⟨rfl,⟨nd,rfl⟩⟩;(try first|exact ⟨rfl,_,World.drewN_drewN _ _ _⟩|exact ⟨rfl,_,Eq.trans (World.drewN_drewN _ _ _) (congrArg (World.drewN _) (Nat.add_assoc _ _ _))⟩)))
             repeat (go_quiet (first|(go_at_call 50;(with_reducible refine (foretellref_In.calls ((rd_T86 l0 x4_1).f1) (-1000) 1000 true _ A16.out).mono ?_);rintro e w' ⟨rfl,⟨nd,rfl⟩⟩;(try first|exact ⟨rfl,_,World.drewN_drewN _ _ _⟩|exact ⟨rfl,_,Eq.trans (World.drewN_drewN _ _ _) (congrArg (World.drewN _) (Nat.add_assoc _ _ _))⟩))|(go_at_call 50;(with_reducible refine (foretellref_In.calls ((rd_T86 l0 x4_1).f2) ((rd_T86 l0 x4_1).f1) 1000 true _ A18.out).mono ?_);rintro e w' ⟨rfl,⟨nd,rfl⟩⟩;(try first|exact ⟨rfl,_,World.drewN_drewN _ _ _⟩|exact ⟨rfl,_,Eq.trans (World.drewN_drewN _ _ _) (congrArg (World.drewN _) (Nat.add_assoc _ _ _))⟩))|(go_at_call 50;(with_reducible refine (foretellref_In.calls ((rd_T86 l0 x4_1).f3) ((rd_T86 l0 x4_1).f1) ((rd_T86 l0 x4_1).f2) t302 _ A20.out).mono ?_);rintro e w' ⟨rfl,⟨nd,rfl⟩⟩;(try first|exact ⟨rfl,_,World.drewN_drewN _ _ _⟩|exact ⟨rfl,_,Eq.trans (World.drewN_drewN _ _ _) (congrArg (World.drewN _) (Nat.add_assoc _ _ _))⟩)));try go_wp2_with (first|(go_at_call 50;(with_reducible refine (foretellref_In.calls ((rd_T86 l0 x4_1).f1) (-1000) 1000 true _ A16.out).mono ?_);rintro e w' ⟨rfl,⟨nd,rfl⟩⟩;(try first|exact ⟨rfl,_,World.drewN_drewN _ _ _⟩|exact ⟨rfl,_,Eq.trans (World.drewN_drewN _ _ _) (congrArg (World.drewN _) (Nat.add_assoc _ _ _))⟩))|(go_at_call 50;(with_reducible refine (foretellref_In.calls ((rd_T86 l0 x4_1).f2) ((rd_T86 l0 x4_1).f1) 1000 true _ A18.out).mono ?_);rintro e w' ⟨rfl,⟨nd,rfl⟩⟩;(try first|exact ⟨rfl,_,World.drewN_drewN _ _ _⟩|exact ⟨rfl,_,Eq.trans (World.drewN_drewN _ _ _) (congrArg (World.drewN _) (Nat.add_assoc _ _ _))⟩))|(go_at_call 50;(with_reducible refine (foretellref_In.calls ((rd_T86 l0 x4_1).f3) ((rd_T86 l0 x4_1).f1) ((rd_T86 l0 x4_1).f2) t302 _ A20.out).mono ?_);rintro e w' ⟨rfl,⟨nd,rfl⟩⟩;(try first|exact ⟨rfl,_,World.drewN_drewN _ _ _⟩|exact ⟨rfl,_,Eq.trans (World.drewN_drewN _ _ _) (congrArg (World.drewN _) (Nat.add_assoc _ _ _))⟩))))
             go_meet
             case rel=>exact ⟨_,(!t302),qr,H',⟨qp HK1 HK2⟩,⟨qk BK297⟩,⟨qb⟩⟩
            ·replace c19:=Bool.eq_false_iff.mpr c19
             subst c19
             have H1:(foretellref_variablesFault.j2 k2 l0 x3_1 x4_1 true ((rd_T86 l0 x4_1).f0) ((rd_T86 l0 x4_1).f1) ((rd_T86 l0 x4_1).f2) ((rd_T86 l0 x4_1).f3)) = some r:=by rw [if_neg (show ¬ (false = true) by decide)] at H;exact H
             clear H
             have H:=H1
             clear H1
             have H':=zA H
             clear H
             have hcz22_0:=qx BK297 0
             have hcz22_1:=qx BK297 1
             have hcz22_2:=qx BK297 2
             have hcz22_3:=qx BK297 3
             have hfz22_0:=zJ BK297.out 0
             have hfz22_1:=zJ BK297.out 1
             have hfz22_2:=zJ BK297.out 2
             have hfz22_3:=zJ BK297.out 3
             go_wp2_with (first|(go_at_call 50;(with_reducible refine (foretellref_In.calls ((rd_T86 l0 x4_1).f1) (-1000) 1000 true _ A16.out).mono ?_);rintro e w' ⟨rfl,⟨nd,rfl⟩⟩;(try first|exact ⟨rfl,_,World.drewN_drewN _ _ _⟩|exact ⟨rfl,_,Eq.trans (World.drewN_drewN _ _ _) (congrArg (World.drewN _) (Nat.add_assoc _ _ _))⟩))|(go_at_call 50;(with_reducible refine (foretellref_In.calls ((rd_T86 l0 x4_1).f2) ((rd_T86 l0 x4_1).f1) 1000 false _ A18.out).mono ?_);rintro e w' ⟨rfl,⟨nd,rfl⟩⟩;(try first|exact ⟨rfl,_,World.drewN_drewN _ _ _⟩|exact ⟨rfl,_,Eq.trans (World.drewN_drewN _ _ _) (congrArg (World.drewN _) (Nat.add_assoc _ _ _))⟩)))
             repeat (go_quiet (first|(go_at_call 50;(with_reducible refine (foretellref_In.calls ((rd_T86 l0 x4_1).f1) (-1000) 1000 true _ A16.out).mono ?_);rintro e w' ⟨rfl,⟨nd,rfl⟩⟩;(try first|exact ⟨rfl,_,World.drewN_drewN _ _ _⟩|exact ⟨rfl,_,Eq.trans (World.drewN_drewN _ _ _) (congrArg (World.drewN _) (Nat.add_assoc _ _ _))⟩))|(go_at_call 50;(with_reducible refine (foretellref_In.calls ((rd_T86 l0 x4_1).f2) ((rd_T86 l0 x4_1).f1) 1000 false _ A18.out).mono ?_);rintro e w' ⟨rfl,⟨nd,rfl⟩⟩;(try first|exact ⟨rfl,_,World.drewN_drewN _ _ _⟩|exact ⟨rfl,_,Eq.trans (World.drewN_drewN _ _ _) (congrArg (World.drewN _) (Nat.add_assoc _ _ _))⟩)));try go_wp2_with (first|(go_at_call 50;(with_reducible refine (foretellref_In.calls ((rd_T86 l0 x4_1).f1) (-1000) 1000 true _ A16.out).mono ?_);rintro e w' ⟨rfl,⟨nd,rfl⟩⟩;(try first|exact ⟨rfl,_,World.drewN_drewN _ _ _⟩|exact ⟨rfl,_,Eq.trans (World.drewN_drewN _ _ _) (congrArg (World.drewN _) (Nat.add_assoc _ _ _))⟩))|(go_at_call 50;(with_reducible refine (foretellref_In.calls ((rd_T86 l0 x4_1).f2) ((rd_T86 l0 x4_1).f1) 1000 false _ A18.out).mono ?_);rintro e w' ⟨rfl,⟨nd,rfl⟩⟩;(try first|exact ⟨rfl,_,World.drewN_drewN _ _ _⟩|exact ⟨rfl,_,Eq.trans (World.drewN_drewN _ _ _) (congrArg (World.drewN _) (Nat.add_assoc _ _ _))⟩))))
             go_meet
             case rel=>exact ⟨_,(true),qr,H',⟨qp HK1 HK2⟩,⟨qk BK297⟩,⟨qb⟩⟩
           ·replace c17:=Bool.eq_false_iff.mpr c17
            subst c17
            have H1:(foretellref_variablesFault.j2 k2 l0 x3_1 x4_1 true ((rd_T86 l0 x4_1).f0) ((rd_T86 l0 x4_1).f1) ((rd_T86 l0 x4_1).f2) ((rd_T86 l0 x4_1).f3)) = some r:=by rw [if_neg (show ¬ (false = true) by decide)] at H;exact H
            clear H
            have H:=H1
            clear H1
            have H':=zA H
            clear H
            have hcz23_0:=qx BK297 0
            have hcz23_1:=qx BK297 1
            have hcz23_2:=qx BK297 2
            have hcz23_3:=qx BK297 3
            have hfz23_0:=zJ BK297.out 0
            have hfz23_1:=zJ BK297.out 1
            have hfz23_2:=zJ BK297.out 2
            have hfz23_3:=zJ BK297.out 3
            go_wp2_with (first|(go_at_call 50;(with_reducible refine (foretellref_In.calls ((rd_T86 l0 x4_1).f1) (-1000) 1000 false _ A16.out).mono ?_);rintro e w' ⟨rfl,⟨nd,rfl⟩⟩;(try first|exact ⟨rfl,_,World.drewN_drewN _ _ _⟩|exact ⟨rfl,_,Eq.trans (World.drewN_drewN _ _ _) (congrArg (World.drewN _) (Nat.add_assoc _ _ _))⟩)))
            repeat (go_quiet (first|(go_at_call 50;(with_reducible refine (foretellref_In.calls ((rd_T86 l0 x4_1).f1) (-1000) 1000 false _ A16.out).mono ?_);rintro e w' ⟨rfl,⟨nd,rfl⟩⟩;(try first|exact ⟨rfl,_,World.drewN_drewN _ _ _⟩|exact ⟨rfl,_,Eq.trans (World.drewN_drewN _ _ _) (congrArg (World.drewN _) (Nat.add_assoc _ _ _))⟩)));try go_wp2_with (first|(go_at_call 50;(with_reducible refine (foretellref_In.calls ((rd_T86 l0 x4_1).f1) (-1000) 1000 false _ A16.out).mono ?_);rintro e w' ⟨rfl,⟨nd,rfl⟩⟩;(try first|exact ⟨rfl,_,World.drewN_drewN _ _ _⟩|exact ⟨rfl,_,Eq.trans (World.drewN_drewN _ _ _) (congrArg (World.drewN _) (Nat.add_assoc _ _ _))⟩))))
            go_meet
            case rel=>exact ⟨_,(true),qr,H',⟨qp HK1 HK2⟩,⟨qk BK297⟩,⟨qb⟩⟩
          case rest =>
           clear HC15
           try clear c1
           try clear c2
           try clear c2b0
           try clear c2b1
           try clear p2
           try clear q2
           try clear hx2
           try clear c3
           try clear c3b0
           try clear c4
           try clear c4b0
           try clear c6
           try clear p6
           try clear c9
           try clear c9b0
           try clear c10
           try clear c10b0
           try clear c11
           try clear c11b0
           try clear c12
           try clear c12b0
           try clear c12b1
           try clear c17
           try clear c19
           try clear hcz13_0
           try clear hcz13_1
           try clear hcz13_2
           try clear hcz13_3
           try clear hcz14_0
           try clear hcz14_1
           try clear hcz14_2
           try clear hcz14_3
           try clear hcz21_0
           try clear hcz21_1
           try clear hcz21_2
           try clear hcz21_3
           try clear hcz22_0
           try clear hcz22_1
           try clear hcz22_2
           try clear hcz22_3
           try clear hcz23_0
           try clear hcz23_1
           try clear hcz23_2
           try clear hcz23_3
           try clear hcz8_0
           try clear hcz8_1
           try clear hcz8_2
           try clear hcz8_3
           try clear hfz13_0
           try clear hfz13_1
           try clear hfz13_2
           try clear hfz13_3
           try clear hfz14_0
           try clear hfz14_1
           try clear hfz14_2
           try clear hfz14_3
           try clear hfz21_0
           try clear hfz21_1
           try clear hfz21_2
           try clear hfz21_3
           try clear hfz22_0
           try clear hfz22_1
           try clear hfz22_2
           try clear hfz22_3
           try clear hfz23_0
           try clear hfz23_1
           try clear hfz23_2
           try clear hfz23_3
           try clear hfz8_0
           try clear hfz8_1
           try clear hfz8_2
           try clear hfz8_3
           try clear hx296_0
           try clear hx296_1
           try clear hx296_2
           try clear hx296_3
           try clear hx299_0
           try clear hx299_1
           try clear hx299_2
           try clear hx299_3
           try clear p2
           try clear p296
           try clear p299
           try clear q2
           try clear q296
           try clear q299
           obtain ⟨kq,x58_14,rfl,HA,HJ14,BK297,HB⟩:=hcut
           cases kq with
           | zero=>exact absurd HA.out (by simp [foretellref_variablesFault.j2])
           | succ kj14 =>
            have H:=HA.out
            clear HA
            simp only [foretellref_variablesFault.j2] at H
            by_cases c24:x58_14 = true
            ·subst c24
             have H1:(some 2) = some r:=by rw [if_pos rfl] at H;exact H
             clear H
             have H:=H1
             clear H1
             obtain rfl:=Option.some.inj H
             go_wp2
             repeat (go_quiet (fail);try go_wp2)
             go_ret
             exact ⟨qe,qb⟩
            ·replace c24:=Bool.eq_false_iff.mpr c24
             subst c24
             have H1:(if (wrap64 (((rd_T86 l0 x4_1).f2) - ((rd_T86 l0 x4_1).f1))) > 63 then (some 1) else (if (wrap64 (x3_1 * (wrap64 ((wrap64 (((rd_T86 l0 x4_1).f2) - ((rd_T86 l0 x4_1).f1))) + 1)))) > 4096 then (some 1) else (foretellref_variablesFault.l0 kj14 l0 (wrap64 (x3_1 * (wrap64 ((wrap64 (((rd_T86 l0 x4_1).f2) - ((rd_T86 l0 x4_1).f1))) + 1)))) (wrap64 (x4_1 + 1))))) = some r:=by rw [if_neg (show ¬ (false = true) by decide)] at H;exact H
             clear H
             have H:=H1
             clear H1
             by_cases c25:(wrap64 (((rd_T86 l0 x4_1).f2) - ((rd_T86 l0 x4_1).f1))) > 63
             ·rw [if_pos c25] at H
              have c25b0:decide (63 < (wrap64 (((rd_T86 l0 x4_1).f2) - ((rd_T86 l0 x4_1).f1)))) = true:=zQ c25
              clear c25
              obtain rfl:=Option.some.inj H
              have hcz26_0:=qx BK297 0
              have hcz26_1:=qx BK297 1
              have hcz26_2:=qx BK297 2
              have hcz26_3:=qx BK297 3
              have hfz26_0:=zJ BK297.out 0
              have hfz26_1:=zJ BK297.out 1
              have hfz26_2:=zJ BK297.out 2
              have hfz26_3:=zJ BK297.out 3
              go_wp2
              repeat (go_quiet (fail);try go_wp2)
              go_ret
              exact ⟨qe,qb⟩
             ·rw [if_neg c25] at H
              have c25b0:decide (63 < (wrap64 (((rd_T86 l0 x4_1).f2) - ((rd_T86 l0 x4_1).f1)))) = false:=zR c25
              clear c25
              by_cases c27:(wrap64 (x3_1 * (wrap64 ((wrap64 (((rd_T86 l0 x4_1).f2) - ((rd_T86 l0 x4_1).f1))) + 1)))) > 4096
              ·rw [if_pos c27] at H
               have c27b0:decide (4096 < (wrap64 (x3_1 * (wrap64 ((wrap64 (((rd_T86 l0 x4_1).f2) - ((rd_T86 l0 x4_1).f1))) + 1))))) = true:=zQ c27
               clear c27
               obtain rfl:=Option.some.inj H
               have hcz28_0:=qx BK297 0
               have hcz28_1:=qx BK297 1
               have hcz28_2:=qx BK297 2
               have hcz28_3:=qx BK297 3
               have hfz28_0:=zJ BK297.out 0
               have hfz28_1:=zJ BK297.out 1
               have hfz28_2:=zJ BK297.out 2
               have hfz28_3:=zJ BK297.out 3
               go_wp2
               repeat (go_quiet (fail);try go_wp2)
               go_ret
               exact ⟨qe,qb⟩
              ·rw [if_neg c27] at H
               have c27b0:decide (4096 < (wrap64 (x3_1 * (wrap64 ((wrap64 (((rd_T86 l0 x4_1).f2) - ((rd_T86 l0 x4_1).f1))) + 1))))) = false:=zR c27
               clear c27
               have H':=zA H
               clear H
               have hcz29_0:=qx BK297 0
               have hcz29_1:=qx BK297 1
               have hcz29_2:=qx BK297 2
               have hcz29_3:=qx BK297 3
               have hfz29_0:=zJ BK297.out 0
               have hfz29_1:=zJ BK297.out 1
               have hfz29_2:=zJ BK297.out 2
               have hfz29_3:=zJ BK297.out 3
               go_wp2
               repeat (go_quiet (fail);try go_wp2)
               go_roundg kj14
               case measure=>have:=HK1.out;have:=HK2.out;have:=HJ14.out;omega
               case rel=>exact ⟨(wrap64 (x3_1 * (wrap64 ((wrap64 (((rd_T86 l0 x4_1).f2) - ((rd_T86 l0 x4_1).f1))) + 1)))),(wrap64 (x4_1 + 1)),qr,qr,H',⟨qq HK1 HK2 HJ14⟩,⟨qb⟩⟩
      ·replace c6:=Bool.eq_false_iff.mpr c6
       subst c6
       have H1:(some 6) = some r:=by rw [if_neg (show ¬ (false = true) by decide)] at H;exact H
       clear H
       have H:=H1
       clear H1
       obtain rfl:=Option.some.inj H
       have p296:0 ≤ (x4_1:Int):=qd
       have q296:x4_1 < (l0.length:Int):=qd
       obtain ⟨ad296,e296,hx296_0,hx296_1,hx296_2,hx296_3⟩:=at_T86 HR0.out x4_1 p296 q296
       cases e296
       replace hx296_0:=qy HB hx296_0
       replace hx296_1:=qy HB hx296_1
       replace hx296_2:=qy HB hx296_2
       replace hx296_3:=qy HB hx296_3
       replace p296:=eq_true p296
       replace q296:=eq_true q296
       go_wp2_with (first|((with_reducible refine zV (N:=5) rfl ?_);refine bq 5 (cs:=#[.string (⟨#[]⟩:ByteArray),.int .i64 0,.int .i64 0,.int .i64 0]) (t:=86) ?_;intro gb297 hg w30 hbox hb;have BK297:=zA (hbox);have GW297:=zA (qg hg);have GE297:=zA (qg hg);replace HB:=zA (zH qb hb);clear hb hbox hg;have hcz31_0:=qx BK297 0;have hcz31_1:=qx BK297 1;have hcz31_2:=qx BK297 2;have hcz31_3:=qx BK297 3;have hfz31_0:=zJ BK297.out 0;have hfz31_1:=zJ BK297.out 1;have hfz31_2:=zJ BK297.out 2;have hfz31_3:=zJ BK297.out 3)|(go_at_call 111;(with_reducible refine (foretellref_NameMay.calls k1 ((rd_T86 l0 x4_1).f0) false _ A5.out).mono ?_);rintro e w' ⟨rfl,⟨nd,rfl⟩⟩;(try first|exact ⟨rfl,_,World.drewN_drewN _ _ _⟩|exact ⟨rfl,_,Eq.trans (World.drewN_drewN _ _ _) (congrArg (World.drewN _) (Nat.add_assoc _ _ _))⟩)))
       repeat (go_quiet (first|((with_reducible refine zV (N:=5) rfl ?_);refine bq 5 (cs:=#[.string (⟨#[]⟩:ByteArray),.int .i64 0,.int .i64 0,.int .i64 0]) (t:=86) ?_;intro gb297 hg w30 hbox hb;have BK297:=zA (hbox);have GW297:=zA (qg hg);have GE297:=zA (qg hg);replace HB:=zA (zH qb hb);clear hb hbox hg;have hcz31_0:=qx BK297 0;have hcz31_1:=qx BK297 1;have hcz31_2:=qx BK297 2;have hcz31_3:=qx BK297 3;have hfz31_0:=zJ BK297.out 0;have hfz31_1:=zJ BK297.out 1;have hfz31_2:=zJ BK297.out 2;have hfz31_3:=zJ BK297.out 3)|(go_at_call 111;(with_reducible refine (foretellref_NameMay.calls k1 ((rd_T86 l0 x4_1).f0) false _ A5.out).mono ?_);rintro e w' ⟨rfl,⟨nd,rfl⟩⟩;(try first|exact ⟨rfl,_,World.drewN_drewN _ _ _⟩|exact ⟨rfl,_,Eq.trans (World.drewN_drewN _ _ _) (congrArg (World.drewN _) (Nat.add_assoc _ _ _))⟩)));try go_wp2_with (first|((with_reducible refine zV (N:=5) rfl ?_);refine bq 5 (cs:=#[.string (⟨#[]⟩:ByteArray),.int .i64 0,.int .i64 0,.int .i64 0]) (t:=86) ?_;intro gb297 hg w30 hbox hb;have BK297:=zA (hbox);have GW297:=zA (qg hg);have GE297:=zA (qg hg);replace HB:=zA (zH qb hb);clear hb hbox hg;have hcz31_0:=qx BK297 0;have hcz31_1:=qx BK297 1;have hcz31_2:=qx BK297 2;have hcz31_3:=qx BK297 3;have hfz31_0:=zJ BK297.out 0;have hfz31_1:=zJ BK297.out 1;have hfz31_2:=zJ BK297.out 2;have hfz31_3:=zJ BK297.out 3)|(go_at_call 111;(with_reducible refine (foretellref_NameMay.calls k1 ((rd_T86 l0 x4_1).f0) false _ A5.out).mono ?_);rintro e w' ⟨rfl,⟨nd,rfl⟩⟩;(try first|exact ⟨rfl,_,World.drewN_drewN _ _ _⟩|exact ⟨rfl,_,Eq.trans (World.drewN_drewN _ _ _) (congrArg (World.drewN _) (Nat.add_assoc _ _ _))⟩))))
       go_ret
       exact ⟨qe,qb⟩
     ·exact absurd H (by simp)
    ·obtain rfl:=Option.some.inj H
     go_wp2
     repeat (go_quiet (fail);try go_wp2)
     go_ret
     exact ⟨qe,qb⟩
mutual
def foretellref_ruleFault.l0:Nat → Int → Int → Int → List (S65) → List (S95) → Option (Int)
 | 0,_,_,_,_,_=>none
 | k + 1,x1,x5,x6,x351000,x351001=>if x6 < (x351001.length:Int) then (foretellref_ruleFault.j1 k x1 x5 x6 (x5 == 0) x351000 x351001) else (foretellref_ruleFault.j1 k x1 x5 x6 false x351000 x351001)
def foretellref_ruleFault.j1:Nat → Int → Int → Int → Bool → List (S65) → List (S95) → Option (Int)
 | 0,_,_,_,_,_,_=>none
 | k + 1,x1,x5,x6,x25,x351000,x351001=>if x25 = true then (if 0 ≤ x6 then (if x6 < (x351001.length:Int) then ((foretellref_In.f ((rd_T95 x351001 x6).f0) 0 (wrap64 (x1 - 1))).bind fun t354=>(if t354 = true then (foretellref_ruleFault.l1 k x1 x6 0 x351000 x351001 ((rd_T95 x351001 x6).f0) ((rd_T95 x351001 x6).f1)) else (some 2))) else (none)) else (none)) else (some x5)
def foretellref_ruleFault.l1:Nat → Int → Int → Int → List (S65) → List (S95) → Int → List (S65) → Option (Int)
 | 0,_,_,_,_,_,_,_=>none
 | k + 1,x1,x6,x8,x351000,x351001,x354000,x354001=>if x8 < x6 then (if 0 ≤ x8 then (if x8 < (x351001.length:Int) then (if ((rd_T95 x351001 x8).f0) = x354000 then (some 7) else (foretellref_ruleFault.l1 k x1 x6 (wrap64 (x8 + 1)) x351000 x351001 x354000 x354001)) else (none)) else (none)) else ((foretellref_kindFault.f k x354001 x1 false).bind fun t356=>(foretellref_ruleFault.l0 k x1 t356 (wrap64 (x6 + 1)) x351000 x351001))
end
def foretellref_ruleFault.f (k:Nat) (l0_0:List (S65)) (l0_1:List (S95)) (a1:Int):Option (Int):=if (l0_1.length:Int) > 6 then (some 1) else ((foretellref_kindFault.f k l0_0 a1 true).bind fun t351=>(foretellref_ruleFault.l0 k a1 t351 0 l0_0 l0_1))
theorem foretellref_ruleFault.mono_l:∀ k,(∀ y0 y1 y2 y3 y4,LeO (foretellref_ruleFault.l0 k y0 y1 y2 y3 y4) (foretellref_ruleFault.l0 (k + 1) y0 y1 y2 y3 y4))∧(∀ y0 y1 y2 y3 y4 y5,LeO (foretellref_ruleFault.j1 k y0 y1 y2 y3 y4 y5) (foretellref_ruleFault.j1 (k + 1) y0 y1 y2 y3 y4 y5))∧(∀ y0 y1 y2 y3 y4 y5 y6,LeO (foretellref_ruleFault.l1 k y0 y1 y2 y3 y4 y5 y6) (foretellref_ruleFault.l1 (k + 1) y0 y1 y2 y3 y4 y5 y6))
 | 0=>⟨fun _ _ _ _ _ r h=>by simp [foretellref_ruleFault.l0] at h,fun _ _ _ _ _ _ r h=>by simp [foretellref_ruleFault.j1] at h,fun _ _ _ _ _ _ _ r h=>by simp [foretellref_ruleFault.l1] at h⟩
 | k + 1=>by
  obtain ⟨ih0,ih1,ih2⟩:=foretellref_ruleFault.mono_l k
  refine ⟨?_,?_,?_⟩
  ·intro y0 y1 y2 y3 y4
   unfold foretellref_ruleFault.l0
   exact qM @foretellref_kindFault.mono
  ·intro y0 y1 y2 y3 y4 y5
   unfold foretellref_ruleFault.j1
   exact qM @foretellref_kindFault.mono
  ·intro y0 y1 y2 y3 y4 y5 y6
   unfold foretellref_ruleFault.l1
   exact qM @foretellref_kindFault.mono
theorem foretellref_ruleFault.mono:∀ a0 a1 a2 k,LeO (foretellref_ruleFault.f k a0 a1 a2) (foretellref_ruleFault.f (k + 1) a0 a1 a2):=by
 intro a0 a1 a2 k
 obtain ⟨ih0,ih1,ih2⟩:=foretellref_ruleFault.mono_l k
 unfold foretellref_ruleFault.f
 exact qM @foretellref_kindFault.mono
set_option maxHeartbeats 8000000 in
set_option maxRecDepth 100000 in
theorem foretellref_ruleFault.calls (k:Nat) (A0_0:Option Addr) (c0_0:Nat) (l0_0:List (S65)) (A0_1:Option Addr) (c0_1:Nat) (l0_1:List (S95)) (a1:Int) (r:Int) (w:World) (hr0_0:Kd.C k65 w A0_0 l0_0.length l0_0) (hc0_0:l0_0.length ≤ c0_0) (hr0_1:Kd.C k95 w A0_1 l0_1.length l0_1) (hc0_1:l0_1.length ≤ c0_1) (h:foretellref_ruleFault.f k l0_0 l0_1 a1 = some r) :
  Calls Tryd.prog 105 #[.agg #[.slice A0_0 l0_0.length c0_0,.slice A0_1 l0_1.length c0_1],.int .i64 a1] w fun e w'=>e = .returned (.int .i64 r)∧Below w.heap.size w w':=by
 have hu93:=Tryd.underlying93
 have hu95:=Tryd.underlying95
 have HR0_0:=zA hr0_0
 have HC0_0:=zA hc0_0
 clear hr0_0 hc0_0
 have HR0_1:=zA hr0_1
 have HC0_1:=zA hc0_1
 clear hr0_1 hc0_1
 have HB:=zA (Below.refl w.heap.size w)
 have H:(if (l0_1.length:Int) > 6 then (some 1) else ((foretellref_kindFault.f k l0_0 a1 true).bind fun t351=>(foretellref_ruleFault.l0 k a1 t351 0 l0_0 l0_1))) = some r:=h
 clear h
 by_cases c3:(l0_1.length:Int) > 6
 ·rw [if_pos c3] at H
  have c3b0:decide (6 < (l0_1.length:Int)) = true:=zQ c3
  have c3b1:decide (6 < l0_1.length) = true:=zQ (by omega)
  clear c3
  obtain rfl:=Option.some.inj H
  go_enter Tryd.func105,Tryd.ntmps105
  go_wp2_with (first|((with_reducible refine zV (N:=2) rfl ?_);refine bq 2 (cs:=#[.slice A0_0 l0_0.length c0_0,.slice A0_1 l0_1.length c0_1]) (t:=93) ?_;intro gb350 hg w4 hbox hb;have BK350:=zA (hbox);have GW350:=zA (qg hg);have GE350:=zA (qg hg);replace HB:=zA (zH qb hb);clear hb hbox hg;have hcz5_0:=qx BK350 0;have hcz5_1:=qx BK350 1;have hfz5_0:=zJ BK350.out 0;have hfz5_1:=zJ BK350.out 1))
  repeat (go_quiet (first|((with_reducible refine zV (N:=2) rfl ?_);refine bq 2 (cs:=#[.slice A0_0 l0_0.length c0_0,.slice A0_1 l0_1.length c0_1]) (t:=93) ?_;intro gb350 hg w4 hbox hb;have BK350:=zA (hbox);have GW350:=zA (qg hg);have GE350:=zA (qg hg);replace HB:=zA (zH qb hb);clear hb hbox hg;have hcz5_0:=qx BK350 0;have hcz5_1:=qx BK350 1;have hfz5_0:=zJ BK350.out 0;have hfz5_1:=zJ BK350.out 1));try go_wp2_with (first|((with_reducible refine zV (N:=2) rfl ?_);refine bq 2 (cs:=#[.slice A0_0 l0_0.length c0_0,.slice A0_1 l0_1.length c0_1]) (t:=93) ?_;intro gb350 hg w4 hbox hb;have BK350:=zA (hbox);have GW350:=zA (qg hg);have GE350:=zA (qg hg);replace HB:=zA (zH qb hb);clear hb hbox hg;have hcz5_0:=qx BK350 0;have hcz5_1:=qx BK350 1;have hfz5_0:=zJ BK350.out 0;have hfz5_1:=zJ BK350.out 1)))
  go_ret
  exact ⟨qe,qb⟩
 ·rw [if_neg c3] at H
  have c3b0:decide (6 < (l0_1.length:Int)) = false:=zR c3
  have c3b1:decide (6 < l0_1.length) = false:=zR (by omega)
  clear c3
  replace H:=zb.mp H
  obtain ⟨t351,A60,H⟩:=H
  replace H:(foretellref_ruleFault.l0 k a1 t351 0 l0_0 l0_1) = some r:=H
  have A6:=zA A60
  clear A60
  have H':=zA H
  clear H
  go_enter Tryd.func105,Tryd.ntmps105
  go_wp2_with (first|((with_reducible refine zV (N:=2) rfl ?_);refine bq 2 (cs:=#[.slice A0_0 l0_0.length c0_0,.slice A0_1 l0_1.length c0_1]) (t:=93) ?_;intro gb350 hg w7 hbox hb;have BK350:=zA (hbox);have GW350:=zA (qg hg);have GE350:=zA (qg hg);replace HB:=zA (zH qb hb);clear hb hbox hg;have hcz8_0:=qx BK350 0;have hcz8_1:=qx BK350 1;have hfz8_0:=zJ BK350.out 0;have hfz8_1:=zJ BK350.out 1)|(go_at_call 86;(with_reducible refine (foretellref_kindFault.calls k _ _ l0_0 a1 true t351 _ (qc HR0_0) HC0_0.out A6.out).mono ?_);rintro e w9 ⟨rfl,hb⟩;replace BK350:=qK BK350 hb;replace HB:=zA (zH qb hb);clear hb))
  repeat (go_quiet (first|((with_reducible refine zV (N:=2) rfl ?_);refine bq 2 (cs:=#[.slice A0_0 l0_0.length c0_0,.slice A0_1 l0_1.length c0_1]) (t:=93) ?_;intro gb350 hg w7 hbox hb;have BK350:=zA (hbox);have GW350:=zA (qg hg);have GE350:=zA (qg hg);replace HB:=zA (zH qb hb);clear hb hbox hg;have hcz8_0:=qx BK350 0;have hcz8_1:=qx BK350 1;have hfz8_0:=zJ BK350.out 0;have hfz8_1:=zJ BK350.out 1)|(go_at_call 86;(with_reducible refine (foretellref_kindFault.calls k _ _ l0_0 a1 true t351 _ (qc HR0_0) HC0_0.out A6.out).mono ?_);rintro e w9 ⟨rfl,hb⟩;replace BK350:=qK BK350 hb;replace HB:=zA (zH qb hb);clear hb));try go_wp2_with (first|((with_reducible refine zV (N:=2) rfl ?_);refine bq 2 (cs:=#[.slice A0_0 l0_0.length c0_0,.slice A0_1 l0_1.length c0_1]) (t:=93) ?_;intro gb350 hg w7 hbox hb;have BK350:=zA (hbox);have GW350:=zA (qg hg);have GE350:=zA (qg hg);replace HB:=zA (zH qb hb);clear hb hbox hg;have hcz8_0:=qx BK350 0;have hcz8_1:=qx BK350 1;have hfz8_0:=zJ BK350.out 0;have hfz8_1:=zJ BK350.out 1)|(go_at_call 86;(with_reducible refine (foretellref_kindFault.calls k _ _ l0_0 a1 true t351 _ (qc HR0_0) HC0_0.out A6.out).mono ?_);rintro e w9 ⟨rfl,hb⟩;replace BK350:=qK BK350 hb;replace HB:=zA (zH qb hb);clear hb)))
  go_loopg [5,6] k (fun kq v5 v6 w'=>∃ (x5_1:Int) (x6_1:Int),v5 = .int .i64 x5_1∧v6 = .int .i64 x6_1∧Aside0 (foretellref_ruleFault.l0 kq a1 x5_1 x6_1 l0_0 l0_1 = some r)∧Aside0 (kq ≤ k)∧Aside0 (w'.heap[gb350]? = some (.cells #[(.slice A0_0 l0_0.length c0_0),(.slice A0_1 l0_1.length c0_1)] 93 (0,0)))∧Aside0 (Below w.heap.size w w'))
  case atStart=>exact ⟨(t351),(0),qr,qr,H',⟨Nat.le_refl _⟩,⟨qk BK350⟩,⟨qb⟩⟩
  case round =>
   clear H'
   try clear c1
   try clear p2
   try clear c3
   try clear c3b0
   try clear c3b1
   try clear hcz5_0
   try clear hcz5_1
   try clear hcz8_0
   try clear hcz8_1
   try clear hfz5_0
   try clear hfz5_1
   try clear hfz8_0
   try clear hfz8_1
   obtain ⟨x5_1,x6_1,rfl,rfl,HA,HK1,BK350,HB⟩:=hrel
   cases gk with
   | zero=>exact absurd HA.out (by simp [foretellref_ruleFault.l0])
   | succ k1 =>
    have H:=HA.out
    clear HA
    simp only [foretellref_ruleFault.l0] at H
    have HC10:=zA H
    clear H
    go_upto_region 5 with (fail)
    repeat (go_quiet (fail);go_upto_region 5 with (fail))
    go_cut [25] (fun v25 wc=>∃ (kq:Nat) (x25_9:Bool),v25 = .bool x25_9∧Aside0 (foretellref_ruleFault.j1 kq a1 x5_1 x6_1 x25_9 l0_0 l0_1 = some r)∧Aside0 (kq ≤ k1)∧Aside0 (wc.heap[gb350]? = some (.cells #[(.slice A0_0 l0_0.length c0_0),(.slice A0_1 l0_1.length c0_1)] 93 (0,0)))∧Aside0 (Below w.heap.size w wc))
    case first =>
     have H:=HC10.out
     clear HC10
     rcases qj H with ⟨c11b0,H⟩|⟨c11b0,H⟩
     ·(first|rw [c11b0]|(simp only [i64_w,i32_w];rw [c11b0])|skip)
      have H':=zA H
      clear H
      have hcz12_0:=qx BK350 0
      have hcz12_1:=qx BK350 1
      have hfz12_0:=zJ BK350.out 0
      have hfz12_1:=zJ BK350.out 1
      go_wp2
      repeat (go_quiet (fail);try go_wp2)
      go_meet
      case rel=>exact ⟨_,((x5_1 == 0)),qr,H',⟨qo HK1⟩,⟨qk BK350⟩,⟨qb⟩⟩
     ·(first|rw [c11b0]|(simp only [i64_w,i32_w];rw [c11b0])|skip)
      have H':=zA H
      clear H
      have hcz13_0:=qx BK350 0
      have hcz13_1:=qx BK350 1
      have hfz13_0:=zJ BK350.out 0
      have hfz13_1:=zJ BK350.out 1
      go_wp2
      repeat (go_quiet (fail);try go_wp2)
      go_meet
      case rel=>exact ⟨_,(false),qr,H',⟨qo HK1⟩,⟨qk BK350⟩,⟨qb⟩⟩
    case rest =>
     clear HC10
     try clear c1
     try clear p2
     try clear c3
     try clear c3b0
     try clear c3b1
     try clear c10
     try clear c11
     try clear c11b0
     try clear hcz12_0
     try clear hcz12_1
     try clear hcz13_0
     try clear hcz13_1
     try clear hcz5_0
     try clear hcz5_1
     try clear hcz8_0
     try clear hcz8_1
     try clear hfz12_0
     try clear hfz12_1
     try clear hfz13_0
     try clear hfz13_1
     try clear hfz5_0
     try clear hfz5_1
     try clear hfz8_0
     try clear hfz8_1
     try clear p2
     obtain ⟨kq,x25_9,rfl,HA,HJ9,BK350,HB⟩:=hcut
     cases kq with
     | zero=>exact absurd HA.out (by simp [foretellref_ruleFault.j1])
     | succ kj9 =>
      have H:=HA.out
      clear HA
      simp only [foretellref_ruleFault.j1] at H
      by_cases c14:x25_9 = true
      ·subst c14
       have H1:(if 0 ≤ x6_1 then (if x6_1 < (l0_1.length:Int) then ((foretellref_In.f ((rd_T95 l0_1 x6_1).f0) 0 (wrap64 (a1 - 1))).bind fun t354=>(if t354 = true then (foretellref_ruleFault.l1 kj9 a1 x6_1 0 l0_0 l0_1 ((rd_T95 l0_1 x6_1).f0) ((rd_T95 l0_1 x6_1).f1)) else (some 2))) else (none)) else (none)) = some r:=by rw [if_pos rfl] at H;exact H
       clear H
       have H:=H1
       clear H1
       rcases qj H with ⟨c15b0,H⟩|⟨c15,H⟩
       ·rcases qj H with ⟨c16b0,H⟩|⟨c16,H⟩
        ·replace H:=zb.mp H
         obtain ⟨t354,A170,H⟩:=H
         replace H:(if t354 = true then (foretellref_ruleFault.l1 kj9 a1 x6_1 0 l0_0 l0_1 ((rd_T95 l0_1 x6_1).f0) ((rd_T95 l0_1 x6_1).f1)) else (some 2)) = some r:=H
         have A17:=zA A170
         clear A170
         by_cases c18:t354 = true
         ·subst c18
          have H1:(foretellref_ruleFault.l1 kj9 a1 x6_1 0 l0_0 l0_1 ((rd_T95 l0_1 x6_1).f0) ((rd_T95 l0_1 x6_1).f1)) = some r:=by rw [if_pos rfl] at H;exact H
          clear H
          have H:=H1
          clear H1
          have H':=zA H
          clear H
          have hcz19_0:=qx BK350 0
          have hcz19_1:=qx BK350 1
          have hfz19_0:=zJ BK350.out 0
          have hfz19_1:=zJ BK350.out 1
          have p352:0 ≤ (x6_1:Int):=qd
          have q352:x6_1 < (l0_1.length:Int):=qd
          obtain ⟨ad352,A352_1,c352_1,e352,hx352_0,hx352_1,hl352_1,hi352_1⟩:=at_T95 HR0_1.out x6_1 p352 q352
          cases e352
          replace hx352_0:=qy HB hx352_0
          replace hx352_1:=qy HB hx352_1
          have HR352_1:=zA hi352_1
          have HC352_1:=zA hl352_1
          clear hi352_1 hl352_1
          replace p352:=eq_true p352
          replace q352:=eq_true q352
          go_wp2_with (first|((with_reducible refine zV (N:=7) rfl ?_);refine bq 7 (cs:=#[.int .i64 0,.slice none 0 0]) (t:=95) ?_;intro gb353 hg w20 hbox hb;have BK353:=zA (hbox);have GW353:=zA (qg hg);have GE353:=zA (qg hg);replace HB:=zA (zH qb hb);have NB350_353:=zA ((by rw [hg];exact Nat.ne_of_lt (blk_lt (g:=gb350) (o:=.cells #[.slice A0_0 l0_0.length c0_0,.slice (some ad352) l0_1.length c0_1] 93 (0,0)) (qk BK350)):gb350 ≠ gb353));have NB353_350:=zA ((by rw [hg];exact Nat.ne_of_gt (blk_lt (g:=gb350) (o:=.cells #[.slice A0_0 l0_0.length c0_0,.slice (some ad352) l0_1.length c0_1] 93 (0,0)) (qk BK350)):gb353 ≠ gb350));replace BK350:=qK BK350 hb;clear hb hbox hg;have hnb21:=NB353_350.out;have hnc21:=NB350_353.out;have hcz22_0:=qx BK353 0;have hcz22_1:=qx BK353 1;have hfz22_0:=zJ BK353.out 0;have hfz22_1:=zJ BK353.out 1)|(go_at_call 50;(with_reducible refine (foretellref_In.calls ((rd_T95 l0_1 x6_1).f0) 0 (wrap64 (a1 - 1)) true _ A17.out).mono ?_);rintro e w' ⟨rfl,⟨nd,rfl⟩⟩;(try first|exact ⟨rfl,_,World.drewN_drewN _ _ _⟩|exact ⟨rfl,_,Eq.trans (World.drewN_drewN _ _ _) (congrArg (World.drewN _) (Nat.add_assoc _ _ _))⟩)))
          repeat (go_quiet (first|((with_reducible refine zV (N:=7) rfl ?_);refine bq 7 (cs:=#[.int .i64 0,.slice none 0 0]) (t:=95) ?_;intro gb353 hg w20 hbox hb;have BK353:=zA (hbox);have GW353:=zA (qg hg);have GE353:=zA (qg hg);replace HB:=zA (zH qb hb);have NB350_353:=zA ((by rw [hg];exact Nat.ne_of_lt (blk_lt (g:=gb350) (o:=.cells #[.slice A0_0 l0_0.length c0_0,.slice (some ad352) l0_1.length c0_1] 93 (0,0)) (qk BK350)):gb350 ≠ gb353));have NB353_350:=zA ((by rw [hg];exact Nat.ne_of_gt (blk_lt (g:=gb350) (o:=.cells #[.slice A0_0 l0_0.length c0_0,.slice (some ad352) l0_1.length c0_1] 93 (0,0)) (qk BK350)):gb353 ≠ gb350));replace BK350:=qK BK350 hb;clear hb hbox hg;have hnb21:=NB353_350.out;have hnc21:=NB350_353.out;have hcz22_0:=qx BK353 0;have hcz22_1:=qx BK353 1;have hfz22_0:=zJ BK353.out 0;have hfz22_1:=zJ BK353.out 1)|(go_at_call 50;(with_reducible refine (foretellref_In.calls ((rd_T95 l0_1 x6_1).f0) 0 (wrap64 (a1 - 1)) true _ A17.out).mono ?_);rintro e w' ⟨rfl,⟨nd,rfl⟩⟩;(try first|exact ⟨rfl,_,World.drewN_drewN _ _ _⟩|exact ⟨rfl,_,Eq.trans (World.drewN_drewN _ _ _) (congrArg (World.drewN _) (Nat.add_assoc _ _ _))⟩)));try go_wp2_with (first|((with_reducible refine zV (N:=7) rfl ?_);refine bq 7 (cs:=#[.int .i64 0,.slice none 0 0]) (t:=95) ?_;intro gb353 hg w20 hbox hb;have BK353:=zA (hbox);have GW353:=zA (qg hg);have GE353:=zA (qg hg);replace HB:=zA (zH qb hb);have NB350_353:=zA ((by rw [hg];exact Nat.ne_of_lt (blk_lt (g:=gb350) (o:=.cells #[.slice A0_0 l0_0.length c0_0,.slice (some ad352) l0_1.length c0_1] 93 (0,0)) (qk BK350)):gb350 ≠ gb353));have NB353_350:=zA ((by rw [hg];exact Nat.ne_of_gt (blk_lt (g:=gb350) (o:=.cells #[.slice A0_0 l0_0.length c0_0,.slice (some ad352) l0_1.length c0_1] 93 (0,0)) (qk BK350)):gb353 ≠ gb350));replace BK350:=qK BK350 hb;clear hb hbox hg;have hnb21:=NB353_350.out;have hnc21:=NB350_353.out;have hcz22_0:=qx BK353 0;have hcz22_1:=qx BK353 1;have hfz22_0:=zJ BK353.out 0;have hfz22_1:=zJ BK353.out 1)|(go_at_call 50;(with_reducible refine (foretellref_In.calls ((rd_T95 l0_1 x6_1).f0) 0 (wrap64 (a1 - 1)) true _ A17.out).mono ?_);rintro e w' ⟨rfl,⟨nd,rfl⟩⟩;(try first|exact ⟨rfl,_,World.drewN_drewN _ _ _⟩|exact ⟨rfl,_,Eq.trans (World.drewN_drewN _ _ _) (congrArg (World.drewN _) (Nat.add_assoc _ _ _))⟩))))
          go_loopg [8] kj9 (fun kq v8 w'=>∃ (x8_3:Int),v8 = .int .i64 x8_3∧Aside0 (foretellref_ruleFault.l1 kq a1 x6_1 x8_3 l0_0 l0_1 ((rd_T95 l0_1 x6_1).f0) ((rd_T95 l0_1 x6_1).f1) = some r)∧Aside0 (kq ≤ kj9)∧Aside0 (w'.heap[gb350]? = some (.cells #[(.slice A0_0 l0_0.length c0_0),(.slice (some ad352) l0_1.length c0_1)] 93 (0,0)))∧Aside0 (w'.heap[gb353]? = some (.cells #[.int .i64 ((rd_T95 l0_1 x6_1).f0),(.slice A352_1 ((rd_T95 l0_1 x6_1).f1).length c352_1)] 95 (0,0)))∧Aside0 (Below w.heap.size w w'))
          case atStart=>exact ⟨(0),qr,H',⟨Nat.le_refl _⟩,⟨by (with_reducible repeat (first|refine zL ?_ _|refine zM ?_|refine zK ?_ _));refine blk_far ?_ NB350_353.out _;(with_reducible repeat (first|refine zL ?_ _|refine zM ?_|refine zK ?_ _));refine blk_far ?_ NB350_353.out _;(with_reducible repeat (first|refine zL ?_ _|refine zM ?_|refine zK ?_ _));exact BK350.out⟩,⟨by (with_reducible repeat (first|refine zL ?_ _|refine zM ?_|refine zK ?_ _));refine zO (cs:=#[.int .i64 ((rd_T95 l0_1 x6_1).f0),.slice none 0 0]) ?_ 1 _ rfl;(with_reducible repeat (first|refine zL ?_ _|refine zM ?_|refine zK ?_ _));refine zO (cs:=#[.int .i64 0,.slice none 0 0]) ?_ 0 _ rfl;(with_reducible repeat (first|refine zL ?_ _|refine zM ?_|refine zK ?_ _));exact BK353.out⟩,⟨qb⟩⟩
          case round =>
           clear H'
           try clear c1
           try clear c2
           try clear p2
           try clear c3
           try clear c3b0
           try clear c3b1
           try clear p3
           try clear q3
           try clear hx3
           try clear p6
           try clear c10
           try clear c11
           try clear c11b0
           try clear c14
           try clear c15
           try clear c15b0
           try clear c16
           try clear c16b0
           try clear c18
           try clear c21
           try clear hcz12_0
           try clear hcz12_1
           try clear hcz13_0
           try clear hcz13_1
           try clear hcz19_0
           try clear hcz19_1
           try clear hcz22_0
           try clear hcz22_1
           try clear hcz5_0
           try clear hcz5_1
           try clear hcz8_0
           try clear hcz8_1
           try clear hfz12_0
           try clear hfz12_1
           try clear hfz13_0
           try clear hfz13_1
           try clear hfz19_0
           try clear hfz19_1
           try clear hfz22_0
           try clear hfz22_1
           try clear hfz5_0
           try clear hfz5_1
           try clear hfz8_0
           try clear hfz8_1
           try clear hx352_0
           try clear hx352_1
           try clear p2
           try clear p352
           try clear q352
           obtain ⟨x8_3,rfl,HA,HK3,BK350,BK353,HB⟩:=hrel
           cases gk with
           | zero=>exact absurd HA.out (by simp [foretellref_ruleFault.l1])
           | succ k3 =>
            have H:=HA.out
            clear HA
            simp only [foretellref_ruleFault.l1] at H
            rcases qj H with ⟨c23b0,H⟩|⟨c23b0,H⟩
            ·rcases qj H with ⟨c24b0,H⟩|⟨c24,H⟩
             ·rcases qj H with ⟨c25b0,H⟩|⟨c25,H⟩
              ·by_cases c26:((rd_T95 l0_1 x8_3).f0) = ((rd_T95 l0_1 x6_1).f0)
               ·rw [if_pos c26] at H
                have c26b0:(((rd_T95 l0_1 x8_3).f0) == ((rd_T95 l0_1 x6_1).f0)) = true:=beq_iff_eq.mpr c26
                have c26b1:(((rd_T95 l0_1 x8_3).f0) != ((rd_T95 l0_1 x6_1).f0)) = false:=bne_eq_false_iff_eq.mpr c26
                clear c26
                obtain rfl:=Option.some.inj H
                have hnb27:=NB350_353.out
                have hnc27:=NB353_350.out
                have hcz28_0:=qx BK350 0
                have hcz28_1:=qx BK350 1
                have hfz28_0:=zJ BK350.out 0
                have hfz28_1:=zJ BK350.out 1
                have p355:0 ≤ (x8_3:Int):=qd
                have q355:x8_3 < (l0_1.length:Int):=qd
                obtain ⟨ad355,A355_1,c355_1,e355,hx355_0,hx355_1,hl355_1,hi355_1⟩:=at_T95 HR0_1.out x8_3 p355 q355
                obtain rfl:ad352 = ad355:=(by injection e355)
                replace hx355_0:=qy HB hx355_0
                replace hx355_1:=qy HB hx355_1
                have HR355_1:=zA hi355_1
                have HC355_1:=zA hl355_1
                clear hi355_1 hl355_1
                replace p355:=eq_true p355
                replace q355:=eq_true q355
                have hcz29_0:=qx BK353 0
                have hcz29_1:=qx BK353 1
                have hfz29_0:=zJ BK353.out 0
                have hfz29_1:=zJ BK353.out 1
                go_wp2
                repeat (go_quiet (fail);try go_wp2)
                go_ret
                exact ⟨qe,qb⟩
               ·rw [if_neg c26] at H
                have c26b0:(((rd_T95 l0_1 x8_3).f0) == ((rd_T95 l0_1 x6_1).f0)) = false:=beq_eq_false_iff_ne.mpr c26
                have c26b1:(((rd_T95 l0_1 x8_3).f0) != ((rd_T95 l0_1 x6_1).f0)) = true:=bne_iff_ne.mpr c26
                have H':=zA H
                clear H
                have hnb30:=NB350_353.out
                have hnc30:=NB353_350.out
                have hcz31_0:=qx BK350 0
                have hcz31_1:=qx BK350 1
                have hfz31_0:=zJ BK350.out 0
                have hfz31_1:=zJ BK350.out 1
                have p355:0 ≤ (x8_3:Int):=qd
                have q355:x8_3 < (l0_1.length:Int):=qd
                obtain ⟨ad355,A355_1,c355_1,e355,hx355_0,hx355_1,hl355_1,hi355_1⟩:=at_T95 HR0_1.out x8_3 p355 q355
                obtain rfl:ad352 = ad355:=(by injection e355)
                replace hx355_0:=qy HB hx355_0
                replace hx355_1:=qy HB hx355_1
                have HR355_1:=zA hi355_1
                have HC355_1:=zA hl355_1
                clear hi355_1 hl355_1
                replace p355:=eq_true p355
                replace q355:=eq_true q355
                have hcz32_0:=qx BK353 0
                have hcz32_1:=qx BK353 1
                have hfz32_0:=zJ BK353.out 0
                have hfz32_1:=zJ BK353.out 1
                go_wp2
                repeat (go_quiet (fail);try go_wp2)
                go_roundg k3
                case measure=>have:=HK1.out;have:=HJ9.out;have:=HK3.out;omega
                case rel=>exact ⟨(wrap64 (x8_3 + 1)),qr,H',⟨qq HK1 HJ9 HK3⟩,⟨qk BK350⟩,⟨qk BK353⟩,⟨qb⟩⟩
              ·exact absurd H (by simp)
             ·exact absurd H (by simp)
            ·replace H:=zb.mp H
             obtain ⟨t356,A330,H⟩:=H
             replace H:(foretellref_ruleFault.l0 k3 a1 t356 (wrap64 (x6_1 + 1)) l0_0 l0_1) = some r:=H
             have A33:=zA A330
             clear A330
             have H':=zA H
             clear H
             have hnb34:=NB353_350.out
             have hnc34:=NB350_353.out
             have hcz35_0:=qx BK353 0
             have hcz35_1:=qx BK353 1
             have hfz35_0:=zJ BK353.out 0
             have hfz35_1:=zJ BK353.out 1
             go_wp2_with (first|(go_at_call 86;(with_reducible refine (foretellref_kindFault.calls k3 _ _ ((rd_T95 l0_1 x6_1).f1) a1 false t356 _ (qc HR352_1) HC352_1.out A33.out).mono ?_);rintro e w36 ⟨rfl,hb⟩;replace BK350:=qK BK350 hb;replace BK353:=qK BK353 hb;replace HB:=zA (zH qb hb);clear hb))
             repeat (go_quiet (first|(go_at_call 86;(with_reducible refine (foretellref_kindFault.calls k3 _ _ ((rd_T95 l0_1 x6_1).f1) a1 false t356 _ (qc HR352_1) HC352_1.out A33.out).mono ?_);rintro e w36 ⟨rfl,hb⟩;replace BK350:=qK BK350 hb;replace BK353:=qK BK353 hb;replace HB:=zA (zH qb hb);clear hb));try go_wp2_with (first|(go_at_call 86;(with_reducible refine (foretellref_kindFault.calls k3 _ _ ((rd_T95 l0_1 x6_1).f1) a1 false t356 _ (qc HR352_1) HC352_1.out A33.out).mono ?_);rintro e w36 ⟨rfl,hb⟩;replace BK350:=qK BK350 hb;replace BK353:=qK BK353 hb;replace HB:=zA (zH qb hb);clear hb)))
             go_roundg k3
             case measure=>have:=HK1.out;have:=HJ9.out;have:=HK3.out;omega
             case rel=>exact ⟨(t356),(wrap64 (x6_1 + 1)),qr,qr,H',⟨qq HK1 HJ9 HK3⟩,⟨qk BK350⟩,⟨qb⟩⟩
         ·replace c18:=Bool.eq_false_iff.mpr c18
          subst c18
          have H1:(some 2) = some r:=by rw [if_neg (show ¬ (false = true) by decide)] at H;exact H
          clear H
          have H:=H1
          clear H1
          obtain rfl:=Option.some.inj H
          have hcz37_0:=qx BK350 0
          have hcz37_1:=qx BK350 1
          have hfz37_0:=zJ BK350.out 0
          have hfz37_1:=zJ BK350.out 1
          have p352:0 ≤ (x6_1:Int):=qd
          have q352:x6_1 < (l0_1.length:Int):=qd
          obtain ⟨ad352,A352_1,c352_1,e352,hx352_0,hx352_1,hl352_1,hi352_1⟩:=at_T95 HR0_1.out x6_1 p352 q352
          cases e352
          replace hx352_0:=qy HB hx352_0
          replace hx352_1:=qy HB hx352_1
          have HR352_1:=zA hi352_1
          have HC352_1:=zA hl352_1
          clear hi352_1 hl352_1
          replace p352:=eq_true p352
          replace q352:=eq_true q352
          go_wp2_with (first|((with_reducible refine zV (N:=7) rfl ?_);refine bq 7 (cs:=#[.int .i64 0,.slice none 0 0]) (t:=95) ?_;intro gb353 hg w38 hbox hb;have BK353:=zA (hbox);have GW353:=zA (qg hg);have GE353:=zA (qg hg);replace HB:=zA (zH qb hb);have NB350_353:=zA ((by rw [hg];exact Nat.ne_of_lt (blk_lt (g:=gb350) (o:=.cells #[.slice A0_0 l0_0.length c0_0,.slice (some ad352) l0_1.length c0_1] 93 (0,0)) (qk BK350)):gb350 ≠ gb353));have NB353_350:=zA ((by rw [hg];exact Nat.ne_of_gt (blk_lt (g:=gb350) (o:=.cells #[.slice A0_0 l0_0.length c0_0,.slice (some ad352) l0_1.length c0_1] 93 (0,0)) (qk BK350)):gb353 ≠ gb350));replace BK350:=qK BK350 hb;clear hb hbox hg;have hnb39:=NB353_350.out;have hnc39:=NB350_353.out;have hcz40_0:=qx BK353 0;have hcz40_1:=qx BK353 1;have hfz40_0:=zJ BK353.out 0;have hfz40_1:=zJ BK353.out 1)|(go_at_call 50;(with_reducible refine (foretellref_In.calls ((rd_T95 l0_1 x6_1).f0) 0 (wrap64 (a1 - 1)) false _ A17.out).mono ?_);rintro e w' ⟨rfl,⟨nd,rfl⟩⟩;(try first|exact ⟨rfl,_,World.drewN_drewN _ _ _⟩|exact ⟨rfl,_,Eq.trans (World.drewN_drewN _ _ _) (congrArg (World.drewN _) (Nat.add_assoc _ _ _))⟩)))
          repeat (go_quiet (first|((with_reducible refine zV (N:=7) rfl ?_);refine bq 7 (cs:=#[.int .i64 0,.slice none 0 0]) (t:=95) ?_;intro gb353 hg w38 hbox hb;have BK353:=zA (hbox);have GW353:=zA (qg hg);have GE353:=zA (qg hg);replace HB:=zA (zH qb hb);have NB350_353:=zA ((by rw [hg];exact Nat.ne_of_lt (blk_lt (g:=gb350) (o:=.cells #[.slice A0_0 l0_0.length c0_0,.slice (some ad352) l0_1.length c0_1] 93 (0,0)) (qk BK350)):gb350 ≠ gb353));have NB353_350:=zA ((by rw [hg];exact Nat.ne_of_gt (blk_lt (g:=gb350) (o:=.cells #[.slice A0_0 l0_0.length c0_0,.slice (some ad352) l0_1.length c0_1] 93 (0,0)) (qk BK350)):gb353 ≠ gb350));replace BK350:=qK BK350 hb;clear hb hbox hg;have hnb39:=NB353_350.out;have hnc39:=NB350_353.out;have hcz40_0:=qx BK353 0;have hcz40_1:=qx BK353 1;have hfz40_0:=zJ BK353.out 0;have hfz40_1:=zJ BK353.out 1)|(go_at_call 50;(with_reducible refine (foretellref_In.calls ((rd_T95 l0_1 x6_1).f0) 0 (wrap64 (a1 - 1)) false _ A17.out).mono ?_);rintro e w' ⟨rfl,⟨nd,rfl⟩⟩;(try first|exact ⟨rfl,_,World.drewN_drewN _ _ _⟩|exact ⟨rfl,_,Eq.trans (World.drewN_drewN _ _ _) (congrArg (World.drewN _) (Nat.add_assoc _ _ _))⟩)));try go_wp2_with (first|((with_reducible refine zV (N:=7) rfl ?_);refine bq 7 (cs:=#[.int .i64 0,.slice none 0 0]) (t:=95) ?_;intro gb353 hg w38 hbox hb;have BK353:=zA (hbox);have GW353:=zA (qg hg);have GE353:=zA (qg hg);replace HB:=zA (zH qb hb);have NB350_353:=zA ((by rw [hg];exact Nat.ne_of_lt (blk_lt (g:=gb350) (o:=.cells #[.slice A0_0 l0_0.length c0_0,.slice (some ad352) l0_1.length c0_1] 93 (0,0)) (qk BK350)):gb350 ≠ gb353));have NB353_350:=zA ((by rw [hg];exact Nat.ne_of_gt (blk_lt (g:=gb350) (o:=.cells #[.slice A0_0 l0_0.length c0_0,.slice (some ad352) l0_1.length c0_1] 93 (0,0)) (qk BK350)):gb353 ≠ gb350));replace BK350:=qK BK350 hb;clear hb hbox hg;have hnb39:=NB353_350.out;have hnc39:=NB350_353.out;have hcz40_0:=qx BK353 0;have hcz40_1:=qx BK353 1;have hfz40_0:=zJ BK353.out 0;have hfz40_1:=zJ BK353.out 1)|(go_at_call 50;(with_reducible refine (foretellref_In.calls ((rd_T95 l0_1 x6_1).f0) 0 (wrap64 (a1 - 1)) false _ A17.out).mono ?_);rintro e w' ⟨rfl,⟨nd,rfl⟩⟩;(try first|exact ⟨rfl,_,World.drewN_drewN _ _ _⟩|exact ⟨rfl,_,Eq.trans (World.drewN_drewN _ _ _) (congrArg (World.drewN _) (Nat.add_assoc _ _ _))⟩))))
          go_ret
          exact ⟨qe,qb⟩
        ·exact absurd H (by simp)
       ·exact absurd H (by simp)
      ·replace c14:=Bool.eq_false_iff.mpr c14
       subst c14
       have H1:(some x5_1) = some r:=by rw [if_neg (show ¬ (false = true) by decide)] at H;exact H
       clear H
       have H:=H1
       clear H1
       obtain rfl:=Option.some.inj H
       go_wp2
       repeat (go_quiet (fail);try go_wp2)
       go_ret
       exact ⟨qe,qb⟩
end Go.Proofs.YthffpjkkmkjplaaDoor.S
namespace Go.Proofs.YthffpjkkmkjplaaDoor.S
open Go.Proofs.YthffpjkkmkjplaaDoor.Al
open Option renaming bind_eq_some_iff → zb
open List renaming setIfInBounds_toArray → zX, set_cons_zero → zY, set_cons_succ → zZ
open Go.Proofs.YthffpjkkmkjplaaDoorW.PrintWords renaming below_drew1 → zE, below_step → zH, blk_cell → zI, blk_frozen → zJ, blk_drew → zM, gate_callee → zU, gate_dst → zV
open Go.Proofs.YthffpjkkmkjplaaDoor.Sq
open Go.RowKit Go.Proofs.YthffpjkkmkjplaaDoorW.PrintWords Go.Proofs.YthffpjkkmkjplaaDoorW.PrintLast Go.Proofs.YthffpjkkmkjplaaDoorW.PrintMore
attribute [local go_sem] max2_int min2_int max_two min_two max_three min_three max_four min_four
set_option linter.unusedVariables false
set_option linter.unusedSimpArgs false
def foretellref_ModelFault.l0:Nat → Int → Int → List (S86) → List (S93) → Option (Int)
 | 0,_,_,_,_=>none
 | k + 1,x3,x4,x358000,x358001=>if x4 < (x358001.length:Int) then (if x3 = 0 then (if 0 ≤ x4 then ((foretellref_ruleFault.f k ((rd_T93 x358001 x4).f0) ((rd_T93 x358001 x4).f1) (x358000.length:Int)).bind fun t360=>(foretellref_ModelFault.l0 k t360 (wrap64 (x4 + 1)) x358000 x358001)) else (none)) else (some x3)) else (some x3)
def foretellref_ModelFault.f (k:Nat) (l0_0:List (S86)) (l0_1:List (S93)):Option (Int):=(foretellref_variablesFault.f k l0_0).bind fun t358=>(if t358 = 0 then (if (l0_1.length:Int) > 12 then (some 1) else (foretellref_ModelFault.l0 k t358 0 l0_0 l0_1)) else (some t358))
theorem foretellref_ModelFault.mono_l:∀ k,(∀ y0 y1 y2 y3,LeO (foretellref_ModelFault.l0 k y0 y1 y2 y3) (foretellref_ModelFault.l0 (k + 1) y0 y1 y2 y3))
 | 0=>fun _ _ _ _ r h=>by simp [foretellref_ModelFault.l0] at h
 | k + 1=>by
  have ih0:=foretellref_ModelFault.mono_l k
  ·intro y0 y1 y2 y3
   unfold foretellref_ModelFault.l0
   exact qM (And.intro @foretellref_ruleFault.mono @foretellref_variablesFault.mono)
theorem foretellref_ModelFault.mono:∀ a0 a1 k,LeO (foretellref_ModelFault.f k a0 a1) (foretellref_ModelFault.f (k + 1) a0 a1):=by
 intro a0 a1 k
 have ih0:=foretellref_ModelFault.mono_l k
 unfold foretellref_ModelFault.f
 exact qM (And.intro @foretellref_ruleFault.mono @foretellref_variablesFault.mono)
def foretellref_ModelFault.T9:Bool × List (List Nat × List Nat):=(true,[([],[]),([0],[0]),([],[]),([1,2],[1,2]),([3],[3]),([],[]),([5],[5]),([6],[6]),([4,7],[4,7]),([8,8,0,1,2,3,4,5,6,7,8],[8])])
def foretellref_ModelFault.B9:List Nat:=[0,1,0,7,15,0,32,96,255,511]
theorem foretellref_ModelFault.tab9:rtab .any (opsOf Tryd.f85 9) = foretellref_ModelFault.T9:=by kernel_rfl
theorem foretellref_ModelFault.bits9:waitsOk foretellref_ModelFault.T9.2 foretellref_ModelFault.B9 = true:=by kernel_rfl
set_option maxHeartbeats 8000000 in
set_option maxRecDepth 100000 in
theorem foretellref_ModelFault.calls (k:Nat) (A0_0:Option Addr) (c0_0:Nat) (l0_0:List (S86)) (A0_1:Option Addr) (c0_1:Nat) (l0_1:List (S93)) (r:Int) (w:World) (hr0_0:Kd.C k86 w A0_0 l0_0.length l0_0) (hc0_0:l0_0.length ≤ c0_0) (hr0_1:Kd.C k93 w A0_1 l0_1.length l0_1) (hc0_1:l0_1.length ≤ c0_1) (h:foretellref_ModelFault.f k l0_0 l0_1 = some r) :
  Calls Tryd.prog 85 #[.agg #[.slice A0_0 l0_0.length c0_0,.slice A0_1 l0_1.length c0_1]] w fun e w'=>e = .returned (.int .i64 r)∧Below w.heap.size w w':=by
 have hu44:=Tryd.underlying44
 have hu93:=Tryd.underlying93
 have HR0_0:=zA hr0_0
 have HC0_0:=zA hc0_0
 clear hr0_0 hc0_0
 have HR0_1:=zA hr0_1
 have HC0_1:=zA hc0_1
 clear hr0_1 hc0_1
 have HB:=zA (Below.refl w.heap.size w)
 have H:((foretellref_variablesFault.f k l0_0).bind fun t358=>(if t358 = 0 then (if (l0_1.length:Int) > 12 then (some 1) else (foretellref_ModelFault.l0 k t358 0 l0_0 l0_1)) else (some t358))) = some r:=h
 clear h
 replace H:=zb.mp H
 obtain ⟨t358,A20,H⟩:=H
 replace H:(if t358 = 0 then (if (l0_1.length:Int) > 12 then (some 1) else (foretellref_ModelFault.l0 k t358 0 l0_0 l0_1)) else (some t358)) = some r:=H
 have A2:=zA A20
 clear A20
 by_cases c3:t358 = 0
 ·rw [if_pos c3] at H
  have c3b0:(t358 == 0) = true:=beq_iff_eq.mpr c3
  have c3b1:(t358 != 0) = false:=bne_eq_false_iff_eq.mpr c3
  clear c3
  by_cases c4:(l0_1.length:Int) > 12
  ·rw [if_pos c4] at H
   have c4b0:decide (12 < (l0_1.length:Int)) = true:=zQ c4
   have c4b1:decide (12 < l0_1.length) = true:=zQ (by omega)
   clear c4
   obtain rfl:=Option.some.inj H
   go_enter Tryd.func85,Tryd.ntmps85
   go_wp2_with (first|((with_reducible refine zV (N:=1) rfl ?_);refine bq 1 (cs:=#[.slice A0_0 l0_0.length c0_0,.slice A0_1 l0_1.length c0_1]) (t:=44) ?_;intro gb357 hg w5 hbox hb;have BK357:=zA (hbox);have GW357:=zA (qg hg);have GE357:=zA (qg hg);replace HB:=zA (zH qb hb);clear hb hbox hg;have hcz6_0:=qx BK357 0;have hcz6_1:=qx BK357 1;have hfz6_0:=zJ BK357.out 0;have hfz6_1:=zJ BK357.out 1)|((with_reducible refine zU (f:=104) rfl ?_);refine gL (some 7) Tryd.func104 #[.slice A0_0 l0_0.length c0_0] ?_;(with_reducible refine (foretellref_variablesFault.calls k _ _ l0_0 t358 _ (qc HR0_0) HC0_0.out A2.out).mono ?_);rintro e w7 ⟨rfl,hb⟩;refine ⟨_,rfl,?_⟩;replace BK357:=qK BK357 hb;replace HB:=zA (zH qb hb);clear hb;have hcz8_0:=qx BK357 0;have hcz8_1:=qx BK357 1;have hfz8_0:=zJ BK357.out 0;have hfz8_1:=zJ BK357.out 1))
   go_ret
   exact ⟨qe,qb⟩
  ·rw [if_neg c4] at H
   have c4b0:decide (12 < (l0_1.length:Int)) = false:=zR c4
   have c4b1:decide (12 < l0_1.length) = false:=zR (by omega)
   clear c4
   have H':=zA H
   clear H
   go_enter Tryd.func85,Tryd.ntmps85
   go_wp2_with (first|((with_reducible refine zV (N:=1) rfl ?_);refine bq 1 (cs:=#[.slice A0_0 l0_0.length c0_0,.slice A0_1 l0_1.length c0_1]) (t:=44) ?_;intro gb357 hg w9 hbox hb;have BK357:=zA (hbox);have GW357:=zA (qg hg);have GE357:=zA (qg hg);replace HB:=zA (zH qb hb);clear hb hbox hg;have hcz10_0:=qx BK357 0;have hcz10_1:=qx BK357 1;have hfz10_0:=zJ BK357.out 0;have hfz10_1:=zJ BK357.out 1)|((with_reducible refine zU (f:=104) rfl ?_);refine gL (some 7) Tryd.func104 #[.slice A0_0 l0_0.length c0_0] ?_;(with_reducible refine (foretellref_variablesFault.calls k _ _ l0_0 t358 _ (qc HR0_0) HC0_0.out A2.out).mono ?_);rintro e w11 ⟨rfl,hb⟩;refine ⟨_,rfl,?_⟩;replace BK357:=qK BK357 hb;replace HB:=zA (zH qb hb);clear hb;have hcz12_0:=qx BK357 0;have hcz12_1:=qx BK357 1;have hfz12_0:=zJ BK357.out 0;have hfz12_1:=zJ BK357.out 1))
   go_loopg [3,4] k (fun kq v3 v4 w'=>∃ (x3_1:Int) (x4_1:Int),v3 = .int .i64 x3_1∧v4 = .int .i64 x4_1∧Aside0 (foretellref_ModelFault.l0 kq x3_1 x4_1 l0_0 l0_1 = some r)∧Aside0 (kq ≤ k)∧Aside0 (w'.heap[gb357]? = some (.cells #[(.slice A0_0 l0_0.length c0_0),(.slice A0_1 l0_1.length c0_1)] 44 (0,0)))∧Aside0 (Below w.heap.size w w'))
   case atStart=>exact ⟨(t358),(0),qr,qr,H',⟨Nat.le_refl _⟩,⟨qk BK357⟩,⟨qb⟩⟩
   case round =>
    clear H'
    try clear c1
    try clear p2
    try clear c3
    try clear c3b0
    try clear c3b1
    try clear c4
    try clear c4b0
    try clear c4b1
    try clear c8
    try clear c10
    try clear hcz10_0
    try clear hcz10_1
    try clear hcz12_0
    try clear hcz12_1
    try clear hcz6_0
    try clear hcz6_1
    try clear hcz8_0
    try clear hcz8_1
    try clear hfz10_0
    try clear hfz10_1
    try clear hfz12_0
    try clear hfz12_1
    try clear hfz6_0
    try clear hfz6_1
    try clear hfz8_0
    try clear hfz8_1
    obtain ⟨x3_1,x4_1,rfl,rfl,HA,HK1,BK357,HB⟩:=hrel
    cases gk with
    | zero=>exact absurd HA.out (by simp [foretellref_ModelFault.l0])
    | succ k1 =>
     have H:=HA.out
     clear HA
     simp only [foretellref_ModelFault.l0] at H
     rcases qj H with ⟨c13b0,H⟩|⟨c13b0,H⟩
     ·by_cases c14:x3_1 = 0
      ·rw [if_pos c14] at H
       have c14b0:(x3_1 == 0) = true:=beq_iff_eq.mpr c14
       have c14b1:(x3_1 != 0) = false:=bne_eq_false_iff_eq.mpr c14
       clear c14
       rcases qj H with ⟨c15b0,H⟩|⟨c15,H⟩
       ·replace H:=zb.mp H
        obtain ⟨t360,A160,H⟩:=H
        replace H:(foretellref_ModelFault.l0 k1 t360 (wrap64 (x4_1 + 1)) l0_0 l0_1) = some r:=H
        have A16:=zA A160
        clear A160
        have H':=zA H
        clear H
        have hcz17_0:=qx BK357 0
        have hcz17_1:=qx BK357 1
        have hfz17_0:=zJ BK357.out 0
        have hfz17_1:=zJ BK357.out 1
        try go_wp2
        replace BK357:=zA (zM BK357.out)
        replace HB:=zA (zE HB.out)
        have p359:0 ≤ (x4_1:Int):=qd
        have q359:x4_1 < (l0_1.length:Int):=qd
        obtain ⟨ad359,A359_0,c359_0,A359_1,c359_1,e359,hx359_0,hx359_1,hl359_0,hi359_0,hl359_1,hi359_1⟩:=at_T93 HR0_1.out x4_1 p359 q359
        have hw359_1:=hx359_1
        have hw359_0:=hx359_0
        cases e359
        replace hx359_0:=qy HB hx359_0
        replace hx359_1:=qy HB hx359_1
        have HR359_0:=zA hi359_0
        have HC359_0:=zA hl359_0
        clear hi359_0 hl359_0
        have HR359_1:=zA hi359_1
        have HC359_1:=zA hl359_1
        clear hi359_1 hl359_1
        replace p359:=eq_true p359
        replace q359:=eq_true q359
        refine start_ (n:=10) (S:=fun w'=>w'.cell? ⟨gb357,0,none⟩ = some (.slice A0_0 l0_0.length c0_0)∧w'.cell? ⟨gb357,1,none⟩ = some (.slice (some ad359) l0_1.length c0_1)∧w'.cell? (ad359.add ((x4_1).toNat * 2)) = some (.slice A359_0 ((rd_T93 l0_1 x4_1).f0).length c359_0)∧w'.cell? ⟨(ad359.add ((x4_1).toNat * 2)).block,(ad359.add ((x4_1).toNat * 2)).off + 1,none⟩ = some (.slice A359_1 ((rd_T93 l0_1 x4_1).f1).length c359_1)) (ds:=[]) #[false,false,false,false,false,false,false,false,false,false] (by kernel_rfl) rfl rfl ⟨(zI BK357.out 0).trans rfl,(zI BK357.out 1).trans rfl,(qy HB hw359_0 :),(qy HB hw359_1 :)⟩ (fun hHeld=>?_);refine with_tabW foretellref_ModelFault.tab9 foretellref_ModelFault.bits9 (fun HT_ HW_=>?_)
        generalize wr.drew = w18 at BK357 HB HR359_0 HR359_1 hx359_0 hx359_1 hHeld ⊢
        refine pq 0 (some 26) HT_ ?_
        refine pq 2 (some 28) HT_ ?_
        refine pq 5 (some 31) HT_ ?_
        refine tq 1 (some 27) HT_ HW_ hHeld ?_
        refine pq 3 (some 29) HT_ ?_
        refine tq 4 (some 30) HT_ HW_ hHeld ?_
        refine tq 6 (some 32) HT_ HW_ hHeld ?_
        refine pq 7 (some 33) HT_ ?_
        refine oq 8 (some 34) HT_ (fun K hK=>?_)
        refine gq Tryd.func105 #[.agg #[.slice A359_0 ((rd_T93 l0_1 x4_1).f0).length c359_0,.slice A359_1 ((rd_T93 l0_1 x4_1).f1).length c359_1],.int .i64 (l0_0.length:Int)] ?_
        with_reducible refine (foretellref_ruleFault.calls k1 _ _ ((rd_T93 l0_1 x4_1).f0) _ _ ((rd_T93 l0_1 x4_1).f1) (l0_0.length:Int) t360 _ (qc HR359_0) HC359_0.out (qc HR359_1) HC359_1.out A16.out).mono ?_
        rintro e w19 ⟨rfl,hb⟩
        refine ⟨_,rfl,?_⟩
        replace BK357:=qK BK357 hb
        replace HB:=zA (zH qb hb)
        (try clear hb)
        (try clear hb2)
        (try clear hk)
        (try clear hi)
        refine hK.out _ _ ⟨(zI BK357.out 0).trans rfl,(zI BK357.out 1).trans rfl,(qy HB hw359_0 :),(qy HB hw359_1 :)⟩ (fun hHeld=>?_)
        clear hK K
        refine norm_ (a':=?_) ?_ ?_
        rotate_left
        ·show Act.put _ (some 34) _ = _
         simp only [Act.put,zX,zY,zZ,i64_w,i32_w]
         rfl
        refine pq 9 (some 3) HT_ ?_
        refine done_ (done_of HT_.out (by kernel_rfl)) ?_
        try go_wp2
        go_roundg k1
        case measure=>have:=HK1.out;omega
        case rel=>exact ⟨(t360),(wrap64 (x4_1 + 1)),qr,qr,H',⟨qo HK1⟩,⟨qk BK357⟩,⟨qb⟩⟩
       ·exact absurd H (by simp)
      ·rw [if_neg c14] at H
       have c14b0:(x3_1 == 0) = false:=beq_eq_false_iff_ne.mpr c14
       have c14b1:(x3_1 != 0) = true:=bne_iff_ne.mpr c14
       obtain rfl:=Option.some.inj H
       have hcz20_0:=qx BK357 0
       have hcz20_1:=qx BK357 1
       have hfz20_0:=zJ BK357.out 0
       have hfz20_1:=zJ BK357.out 1
       go_wp2
       go_ret
       exact ⟨qe,qb⟩
     ·obtain rfl:=Option.some.inj H
      have hcz21_0:=qx BK357 0
      have hcz21_1:=qx BK357 1
      have hfz21_0:=zJ BK357.out 0
      have hfz21_1:=zJ BK357.out 1
      go_wp2
      go_ret
      exact ⟨qe,qb⟩
 ·rw [if_neg c3] at H
  have c3b0:(t358 == 0) = false:=beq_eq_false_iff_ne.mpr c3
  have c3b1:(t358 != 0) = true:=bne_iff_ne.mpr c3
  obtain rfl:=Option.some.inj H
  go_enter Tryd.func85,Tryd.ntmps85
  go_wp2_with (first|((with_reducible refine zV (N:=1) rfl ?_);refine bq 1 (cs:=#[.slice A0_0 l0_0.length c0_0,.slice A0_1 l0_1.length c0_1]) (t:=44) ?_;intro gb357 hg w22 hbox hb;have BK357:=zA (hbox);have GW357:=zA (qg hg);have GE357:=zA (qg hg);replace HB:=zA (zH qb hb);clear hb hbox hg;have hcz23_0:=qx BK357 0;have hcz23_1:=qx BK357 1;have hfz23_0:=zJ BK357.out 0;have hfz23_1:=zJ BK357.out 1)|((with_reducible refine zU (f:=104) rfl ?_);refine gL (some 7) Tryd.func104 #[.slice A0_0 l0_0.length c0_0] ?_;(with_reducible refine (foretellref_variablesFault.calls k _ _ l0_0 t358 _ (qc HR0_0) HC0_0.out A2.out).mono ?_);rintro e w24 ⟨rfl,hb⟩;refine ⟨_,rfl,?_⟩;replace BK357:=qK BK357 hb;replace HB:=zA (zH qb hb);clear hb))
  go_ret
  exact ⟨qe,qb⟩
end Go.Proofs.YthffpjkkmkjplaaDoor.S
