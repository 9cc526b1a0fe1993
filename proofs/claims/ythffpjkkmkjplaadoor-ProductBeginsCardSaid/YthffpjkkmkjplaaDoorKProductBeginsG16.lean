import Derived.Test.YthffpjkkmkjplaaDoorKProductBeginsG9
import Derived.Test.YthffpjkkmkjplaaDoorKProductBeginsG15
namespace Go.Proofs.YthffpjkkmkjplaaDoor.S
open Go.Proofs.YthffpjkkmkjplaaDoor.Al
open Go.World renaming block_lt_of_cell? → zB
open Option renaming bind_eq_some_iff → zb
open List renaming setIfInBounds_toArray → zX, set_cons_zero → zY, set_cons_succ → zZ
open Go.Proofs.YthffpjkkmkjplaaDoorW.PrintWords renaming below_drew1 → zE, below_step → zH, Kd.C_below → zT, gate_callee → zU
open Go.Proofs.YthffpjkkmkjplaaDoor.Sq
open Go.RowKit Go.Proofs.YthffpjkkmkjplaaDoorW.PrintWords Go.Proofs.YthffpjkkmkjplaaDoorW.PrintLast Go.Proofs.YthffpjkkmkjplaaDoorW.PrintMore
attribute [local go_sem] max2_int min2_int max_two min_two max_three min_three max_four min_four
set_option linter.unusedVariables false
set_option linter.unusedSimpArgs false
mutual
def foretellref_typed.l0:Nat → List (S65) → List (List (S65)) → Int → Option (Int)
 | 0,_,_,_=>none
 | k + 1,x0,x3,x5=>if x5 < (x3.length:Int) then (if 0 ≤ x5 then (if 0 < ((rd_L4 x3 x5).length:Int) then ((foretellref_makesTruth.f ((rd_T65 (rd_L4 x3 x5) 0).f0)).bind fun t330=>(if 0 < (x0.length:Int) then ((foretellref_takesTruth.f ((rd_T65 x0 0).f0)).bind fun t332=>(if (t330 != t332) = true then (some 5) else ((foretellref_typed.f k (rd_L4 x3 x5)).bind fun t334=>(if t334 = 0 then (foretellref_typed.l0 k x0 x3 (wrap64 (x5 + 1))) else (some 5))))) else (none))) else (none)) else (none)) else (some 0)
def foretellref_typed.f:Nat → List (S65) → Option (Int)
 | 0,_=>none
 | k + 1,l0=>(foretellref_SplitOf.f k l0).bind fun bt324=>(foretellref_typed.l0 k l0 bt324.1 0)
end
theorem foretellref_typed.mono_l:∀ k,(∀ y0,LeO (foretellref_typed.f k y0) (foretellref_typed.f (k + 1) y0))∧(∀ y0 y1 y2,LeO (foretellref_typed.l0 k y0 y1 y2) (foretellref_typed.l0 (k + 1) y0 y1 y2))
 | 0=>⟨fun _ r h=>by simp [foretellref_typed.f] at h,fun _ _ _ r h=>by simp [foretellref_typed.l0] at h⟩
 | k + 1=>by
  obtain ⟨ih0,ih1⟩:=foretellref_typed.mono_l k
  refine ⟨?_,?_⟩
  ·intro y0
   unfold foretellref_typed.f
   exact qM @foretellref_SplitOf.mono
  ·intro y0 y1 y2
   unfold foretellref_typed.l0
   exact qM @foretellref_SplitOf.mono
theorem foretellref_typed.mono:∀ a0 k,LeO (foretellref_typed.f k a0) (foretellref_typed.f (k + 1) a0):=by
 intro a0 k
 obtain ⟨ih0,ih1⟩:=foretellref_typed.mono_l k
 exact ih0 a0
def foretellref_typed.T5:Bool × List (List Nat × List Nat):=(true,[([],[]),([],[]),([0,1],[0,1]),([2],[2]),([3],[3]),([4],[4]),([5],[5]),([6],[6]),([],[]),([8],[8]),([9],[9]),([10],[10]),([11,7],[11]),([7,12],[7,12]),([13,12],[13]),([14],[14]),([14],[14]),([15,16,14],[14,15,16]),([17,14],[14,17]),([18,14,14],[14,18]),([19,14],[14,19]),([14,20],[14,20])])
def foretellref_typed.B5:List Nat:=[0,0,3,7,15,31,63,127,0,256,768,1792,4095,8191,16383,32767,32767,131071,262143,524287,1048575,2097151]
theorem foretellref_typed.tab5:rtab .any (opsOf Tryd.f106 5) = foretellref_typed.T5:=by kernel_rfl
theorem foretellref_typed.bits5:waitsOk foretellref_typed.T5.2 foretellref_typed.B5 = true:=by kernel_rfl
set_option maxHeartbeats 8000000 in
set_option maxRecDepth 100000 in
theorem foretellref_typed.calls (k:Nat):∀ (A0:Option Addr) (c0:Nat) (l0:List (S65)) (r:Int) (w:World) (hr0:Kd.C k65 w A0 l0.length l0) (hc0:l0.length ≤ c0) (h:foretellref_typed.f k l0 = some r),
  Calls Tryd.prog 106 #[.slice A0 l0.length c0] w fun e w'=>e = .returned (.int .i64 r)∧Below w.heap.size w w':=by
 induction k using Nat.strongRecOn with
 | _ k ih =>
 intro A0 c0 l0 r w hr0 hc0 h
 cases k with
 | zero=>exact absurd h (by simp [foretellref_typed.f])
 | succ k =>
 simp only [foretellref_typed.f] at h
 have HR0:=zA hr0
 have HC0:=zA hc0
 clear hr0 hc0
 have HB:=zA (Below.refl w.heap.size w)
 have H:((foretellref_SplitOf.f k l0).bind fun bt324=>(foretellref_typed.l0 k l0 bt324.1 0)) = some r:=h
 clear h
 replace H:=zb.mp H
 obtain ⟨⟨t324,t325⟩,A20,H⟩:=H
 replace H:(foretellref_typed.l0 k l0 t324 0) = some r:=H
 have A2:=zA A20
 clear A20
 have H':=zA H
 clear H
 go_enter Tryd.func106,Tryd.ntmps106
 go_wp2_with (first|((with_reducible refine zU (f:=108) rfl ?_);refine gL (some 8) Tryd.func108 #[.slice A0 l0.length c0] ?_;(with_reducible refine (foretellref_SplitOf.calls k _ _ l0 t324 t325 _ (qu HR0.out) HC0.out A2.out).mono ?_);rintro e w3 ⟨v326,rfl,ho0,hb⟩;refine ⟨_,rfl,?_⟩;have HO327:=zA (Kd.S_lower ho0 qs);replace HB:=zA (zH qb hb);clear ho0 hb))
 go_loopg [5] k (fun kq v5 w'=>∃ (x5_1:Int),v5 = .int .i64 x5_1∧Aside0 (foretellref_typed.l0 kq l0 t324 x5_1 = some r)∧Aside0 (kq ≤ k)∧Aside0 (Kd.S (Kd.slice 65 k65) 22 w' w.heap.size (fun _=>True) v326 t324)∧Aside0 (Below w.heap.size w w'))
 case atStart=>exact ⟨(0),qr,H',⟨Nat.le_refl _⟩,⟨qS HO327⟩,⟨qb⟩⟩
 case round =>
  clear H'
  try clear c1
  try clear p2
  obtain ⟨x5_1,rfl,HA,HK1,HO_3,HB⟩:=hrel
  cases gk with
  | zero=>exact absurd HA.out (by simp [foretellref_typed.l0])
  | succ k1 =>
   have H:=HA.out
   clear HA
   simp only [foretellref_typed.l0] at H
   rcases qj H with ⟨c4b0,H⟩|⟨c4b0,H⟩
   ·rcases qj H with ⟨c5b0,H⟩|⟨c5,H⟩
    ·by_cases c6:0 < ((rd_L4 t324 x5_1).length:Int)
     ·rw [if_pos c6] at H
      have c6b0:decide (0 < ((rd_L4 t324 x5_1).length:Int)) = true:=zQ c6
      have c6b1:decide (0 < (rd_L4 t324 x5_1).length) = true:=zQ (by omega)
      clear c6
      replace H:=zb.mp H
      obtain ⟨t330,A70,H⟩:=H
      replace H:(if 0 < (l0.length:Int) then ((foretellref_takesTruth.f ((rd_T65 l0 0).f0)).bind fun t332=>(if (t330 != t332) = true then (some 5) else ((foretellref_typed.f k1 (rd_L4 t324 x5_1)).bind fun t334=>(if t334 = 0 then (foretellref_typed.l0 k1 l0 t324 (wrap64 (x5_1 + 1))) else (some 5))))) else (none)) = some r:=H
      have A7:=zA A70
      clear A70
      by_cases c8:0 < (l0.length:Int)
      ·rw [if_pos c8] at H
       have c8b0:decide (0 < (l0.length:Int)) = true:=zQ c8
       have c8b1:decide (0 < l0.length) = true:=zQ (by omega)
       clear c8
       replace H:=zb.mp H
       obtain ⟨t332,A90,H⟩:=H
       replace H:(if (t330 != t332) = true then (some 5) else ((foretellref_typed.f k1 (rd_L4 t324 x5_1)).bind fun t334=>(if t334 = 0 then (foretellref_typed.l0 k1 l0 t324 (wrap64 (x5_1 + 1))) else (some 5)))) = some r:=H
       have A9:=zA A90
       clear A90
       by_cases c10:(t330 != t332) = true
       ·rw [if_pos c10] at H
        have c10b0:(t330 != t332) = true:=c10
        (try (have c10b1:decide (t330 = t332) = false:=by simpa using c10))
        (try (have c10b2:(t330 == t332) = false:=by simpa using c10))
        (try (have c10b3:¬ (t330 = t332):=by simpa using c10))
        clear c10
        obtain rfl:=Option.some.inj H
        obtain ⟨Ao11,co11,eo11⟩:=Kd.S_slice HO_3.out
        subst eo11
        try go_wp2
        replace HO_3:=zA (Kd.S_drew HO_3.out)
        replace HB:=zA (zE HB.out)
        have p328:0 ≤ (x5_1:Int):=qd
        have q328:x5_1 < (t324.length:Int):=qd
        obtain ⟨ad328,A328_0,c328_0,e328,hx328_0,hl328_0,hi328_0⟩:=at_L4 (Kd.S_reads' HO_3.out).2.2 x5_1 p328 q328
        cases e328
        obtain ⟨ce328,hce328,hMe328,hcc328⟩:=Kd.S_get HO_3.out [] x5_1 p328 (by first|exact q328|exact qd|(have e_:=(Kd.S_reads' HO_3.out).1;omega))
        obtain ⟨ve328_0,rfl,ge328_0⟩:=hMe328
        have hv328_0:=hcc328 0 _ rfl
        rw [Nat.add_zero,show ((Kd.slice 65 k65)).sz = 1 from rfl,Nat.mul_one] at hv328_0
        replace hv328_0:=Option.some.inj (hv328_0.symm.trans hx328_0)
        rw [hv328_0] at ge328_0
        have HL328_0:=zA (show Kd.R k65 65 _ _ _ _ (rd_L4 t324 x5_1) from ge328_0)
        clear hv328_0 ge328_0
        clear hcc328 hce328
        have HR328_0:=zA hi328_0
        have HC328_0:=zA hl328_0
        clear hi328_0 hl328_0
        replace p328:=eq_true p328
        replace q328:=eq_true q328
        have p329:0 ≤ (0:Int):=(by omega)
        have q329:0 < ((rd_L4 t324 x5_1).length:Int):=qd
        obtain ⟨ad329,e329,hx329_0,hx329_1⟩:=at_T65 (qC HR328_0) 0 p329 q329
        cases e329
        have qi329:(0 < (rd_L4 t324 x5_1).length) = True:=eq_true (by omega)
        (try rw [show ((0:Int)).toNat = 0 from rfl] at hx329_0)
        (try rw [show 0 * 2 = 0 from rfl] at hx329_0)
        (try rw [Addr.add_zero'] at hx329_0)
        (try rw [show ((0:Int)).toNat = 0 from rfl] at hx329_1)
        (try rw [show 0 * 2 = 0 from rfl] at hx329_1)
        (try rw [Addr.add_zero'] at hx329_1)
        replace p329:=eq_true p329
        replace q329:=eq_true q329
        have p331:0 ≤ (0:Int):=(by omega)
        have q331:0 < (l0.length:Int):=qd
        obtain ⟨ad331,e331,hx331_0,hx331_1⟩:=at_T65 HR0.out 0 p331 q331
        have hw331_1:=hx331_1
        (try rw [show ((0:Int)).toNat = 0 from rfl] at hw331_1)
        (try rw [show 0 * 2 = 0 from rfl] at hw331_1)
        (try rw [Addr.add_zero'] at hw331_1)
        have hw331_0:=hx331_0
        (try rw [show ((0:Int)).toNat = 0 from rfl] at hw331_0)
        (try rw [show 0 * 2 = 0 from rfl] at hw331_0)
        (try rw [Addr.add_zero'] at hw331_0)
        cases e331
        have qi331:(0 < l0.length) = True:=eq_true (by omega)
        (try rw [show ((0:Int)).toNat = 0 from rfl] at hx331_0)
        (try rw [show 0 * 2 = 0 from rfl] at hx331_0)
        (try rw [Addr.add_zero'] at hx331_0)
        (try rw [show ((0:Int)).toNat = 0 from rfl] at hx331_1)
        (try rw [show 0 * 2 = 0 from rfl] at hx331_1)
        (try rw [Addr.add_zero'] at hx331_1)
        replace hx331_0:=qy HB hx331_0
        replace hx331_1:=qy HB hx331_1
        replace p331:=eq_true p331
        replace q331:=eq_true q331
        refine start_ (n:=22) (S:=fun w'=>w'.cell? (ad328.add (x5_1).toNat) = some (.slice (some ad329) (rd_L4 t324 x5_1).length c328_0)∧w'.cell? ad329 = some (.int .i64 ((rd_T65 (rd_L4 t324 x5_1) 0).f0))∧w'.cell? ⟨ad329.block,ad329.off + 1,none⟩ = some (.int .i64 ((rd_T65 (rd_L4 t324 x5_1) 0).f1))∧w'.cell? ad331 = some (.int .i64 ((rd_T65 l0 0).f0))∧w'.cell? ⟨ad331.block,ad331.off + 1,none⟩ = some (.int .i64 ((rd_T65 l0 0).f1))) (ds:=[]) #[false,false,false,false,false,false,false,false,false,false,false,false,false,false,false,false,false,false,false,false,false,false] (by kernel_rfl) rfl rfl ⟨hx328_0,hx329_0,hx329_1,(qy HB hw331_0 :),(qy HB hw331_1 :)⟩ (fun hHeld=>?_);refine with_tabW foretellref_typed.tab5 foretellref_typed.bits5 (fun HT_ HW_=>?_)
        generalize wr.drew = w12 at HO_3 HB HL328_0 HR328_0 hx328_0 hx329_0 hx329_1 hx331_0 hx331_1 hHeld ⊢
        refine pq 0 (some 17) HT_ ?_
        refine pq 1 (some 18) HT_ ?_
        refine pq 2 (some 19) HT_ ?_
        refine pq 8 (some 25) HT_ ?_
        refine pq 9 (some 26) HT_ ?_
        refine pq 10 (some 27) HT_ ?_
        refine tq 3 (some 20) HT_ HW_ hHeld ?_
        refine pq 4 (some 21) HT_ ?_
        refine pq 5 (some 22) HT_ ?_
        refine tq 6 (some 23) HT_ HW_ hHeld ?_
        refine tq 11 (some 28) HT_ HW_ hHeld ?_
        refine oq 7 (some 24) HT_ (fun K hK=>?_)
        refine gq Tryd.func107 #[.int .i64 ((rd_T65 (rd_L4 t324 x5_1) 0).f0)] ?_
        with_reducible refine (foretellref_makesTruth.calls ((rd_T65 (rd_L4 t324 x5_1) 0).f0) t330 _ A7.out).mono ?_
        rintro e w' ⟨rfl,⟨nd,rfl⟩⟩
        refine ⟨_,rfl,?_⟩
        refine hK.out _ _ ⟨hHeld.1,hHeld.2.1,hHeld.2.2.1,(qy HB hw331_0 :),(qy HB hw331_1 :)⟩ (fun hHeld=>?_)
        clear hK K
        refine norm_ (a':=?_) ?_ ?_
        rotate_left
        ·show Act.put _ (some 24) _ = _
         simp only [Act.put,zX,zY,zZ,i64_w,i32_w]
         rfl
        refine oq 12 (some 29) HT_ (fun K hK=>?_)
        refine gq Tryd.func112 #[.int .i64 ((rd_T65 l0 0).f0)] ?_
        with_reducible refine (foretellref_takesTruth.calls ((rd_T65 l0 0).f0) t332 _ A9.out).mono ?_
        rintro e w' ⟨rfl,⟨nd,rfl⟩⟩
        refine ⟨_,rfl,?_⟩
        refine hK.out _ _ ⟨hHeld.1,hHeld.2.1,hHeld.2.2.1,(qy HB hw331_0 :),(qy HB hw331_1 :)⟩ (fun hHeld=>?_)
        clear hK K
        refine norm_ (a':=?_) ?_ ?_
        rotate_left
        ·show Act.put _ (some 29) _ = _
         simp only [Act.put,zX,zY,zZ,i64_w,i32_w]
         rfl
        refine pq 13 (some 30) HT_ ?_
        refine pq 14 (some 31) HT_ ?_
        refine pure_ (i:=15) (N:=some 32) (v:=undef) (a':=?_) #[true,true,true,true,true,true,true,true,true,true,true,true,true,true,true,true,false,false,false,false,false,false] rfl rfl (any_of HT_.out (by kernel_rfl)) (fun _ _ _ h=>h) (Or.inr ⟨by rfl,rfl⟩) ?_ ?_
        rotate_left
        ·simp only [Act.put,zX,zY,zZ,i64_w,i32_w]
         rfl
        refine pure_ (i:=16) (N:=some 33) (v:=undef) (a':=?_) #[true,true,true,true,true,true,true,true,true,true,true,true,true,true,true,true,true,false,false,false,false,false] rfl rfl (any_of HT_.out (by kernel_rfl)) (fun _ _ _ h=>h) (Or.inr ⟨by rfl,rfl⟩) ?_ ?_
        rotate_left
        ·simp only [Act.put,zX,zY,zZ,i64_w,i32_w]
         rfl
        refine pure_ (i:=17) (N:=some 34) (v:=undef) (a':=?_) #[true,true,true,true,true,true,true,true,true,true,true,true,true,true,true,true,true,true,false,false,false,false] rfl rfl (any_of HT_.out (by kernel_rfl)) (fun _ _ _ h=>h) (Or.inr ⟨by rfl,rfl⟩) ?_ ?_
        rotate_left
        ·simp only [Act.put,zX,zY,zZ,i64_w,i32_w]
         rfl
        refine pure_ (i:=18) (N:=some 35) (v:=undef) (a':=?_) #[true,true,true,true,true,true,true,true,true,true,true,true,true,true,true,true,true,true,true,false,false,false] rfl rfl (any_of HT_.out (by kernel_rfl)) (fun _ _ _ h=>h) (Or.inr ⟨by rfl,rfl⟩) ?_ ?_
        rotate_left
        ·simp only [Act.put,zX,zY,zZ,i64_w,i32_w]
         rfl
        refine pure_ (i:=19) (N:=some 36) (v:=undef) (a':=?_) #[true,true,true,true,true,true,true,true,true,true,true,true,true,true,true,true,true,true,true,true,false,false] rfl rfl (any_of HT_.out (by kernel_rfl)) (fun _ _ _ h=>h) (Or.inr ⟨by rfl,rfl⟩) ?_ ?_
        rotate_left
        ·simp only [Act.put,zX,zY,zZ,i64_w,i32_w]
         rfl
        refine pure_ (i:=20) (N:=some 37) (v:=undef) (a':=?_) #[true,true,true,true,true,true,true,true,true,true,true,true,true,true,true,true,true,true,true,true,true,false] rfl rfl (any_of HT_.out (by kernel_rfl)) (fun _ _ _ h=>h) (Or.inr ⟨by rfl,rfl⟩) ?_ ?_
        rotate_left
        ·simp only [Act.put,zX,zY,zZ,i64_w,i32_w]
         rfl
        refine pq 21 (some 38) HT_ ?_
        refine done_ (done_of HT_.out (by kernel_rfl)) ?_
        try go_wp2
        go_ret
        exact ⟨qe,qb⟩
       ·rw [if_neg c10] at H
        have c10b0:(t330 != t332) = false:=by simpa using c10
        (try (have c10b1:decide (t330 = t332) = true:=by simpa using c10))
        (try (have c10b2:(t330 == t332) = true:=by simpa using c10))
        clear c10
        replace H:=zb.mp H
        obtain ⟨t334,A130,H⟩:=H
        replace H:(if t334 = 0 then (foretellref_typed.l0 k1 l0 t324 (wrap64 (x5_1 + 1))) else (some 5)) = some r:=H
        have A13:=zA A130
        clear A130
        by_cases c14:t334 = 0
        ·rw [if_pos c14] at H
         have c14b0:(t334 == 0) = true:=beq_iff_eq.mpr c14
         have c14b1:(t334 != 0) = false:=bne_eq_false_iff_eq.mpr c14
         clear c14
         have H':=zA H
         clear H
         obtain ⟨Ao15,co15,eo15⟩:=Kd.S_slice HO_3.out
         subst eo15
         try go_wp2
         replace HO_3:=zA (Kd.S_drew HO_3.out)
         replace HB:=zA (zE HB.out)
         have p328:0 ≤ (x5_1:Int):=qd
         have q328:x5_1 < (t324.length:Int):=qd
         obtain ⟨ad328,A328_0,c328_0,e328,hx328_0,hl328_0,hi328_0⟩:=at_L4 (Kd.S_reads' HO_3.out).2.2 x5_1 p328 q328
         cases e328
         obtain ⟨ce328,hce328,hMe328,hcc328⟩:=Kd.S_get HO_3.out [] x5_1 p328 (by first|exact q328|exact qd|(have e_:=(Kd.S_reads' HO_3.out).1;omega))
         obtain ⟨ve328_0,rfl,ge328_0⟩:=hMe328
         have hv328_0:=hcc328 0 _ rfl
         rw [Nat.add_zero,show ((Kd.slice 65 k65)).sz = 1 from rfl,Nat.mul_one] at hv328_0
         replace hv328_0:=Option.some.inj (hv328_0.symm.trans hx328_0)
         rw [hv328_0] at ge328_0
         have HL328_0:=zA (show Kd.R k65 65 _ _ _ _ (rd_L4 t324 x5_1) from ge328_0)
         clear hv328_0 ge328_0
         clear hcc328 hce328
         have HR328_0:=zA hi328_0
         have HC328_0:=zA hl328_0
         clear hi328_0 hl328_0
         replace p328:=eq_true p328
         replace q328:=eq_true q328
         have p329:0 ≤ (0:Int):=(by omega)
         have q329:0 < ((rd_L4 t324 x5_1).length:Int):=qd
         obtain ⟨ad329,e329,hx329_0,hx329_1⟩:=at_T65 (qC HR328_0) 0 p329 q329
         cases e329
         have qi329:(0 < (rd_L4 t324 x5_1).length) = True:=eq_true (by omega)
         (try rw [show ((0:Int)).toNat = 0 from rfl] at hx329_0)
         (try rw [show 0 * 2 = 0 from rfl] at hx329_0)
         (try rw [Addr.add_zero'] at hx329_0)
         (try rw [show ((0:Int)).toNat = 0 from rfl] at hx329_1)
         (try rw [show 0 * 2 = 0 from rfl] at hx329_1)
         (try rw [Addr.add_zero'] at hx329_1)
         replace p329:=eq_true p329
         replace q329:=eq_true q329
         have p331:0 ≤ (0:Int):=(by omega)
         have q331:0 < (l0.length:Int):=qd
         obtain ⟨ad331,e331,hx331_0,hx331_1⟩:=at_T65 HR0.out 0 p331 q331
         have hw331_1:=hx331_1
         (try rw [show ((0:Int)).toNat = 0 from rfl] at hw331_1)
         (try rw [show 0 * 2 = 0 from rfl] at hw331_1)
         (try rw [Addr.add_zero'] at hw331_1)
         have hw331_0:=hx331_0
         (try rw [show ((0:Int)).toNat = 0 from rfl] at hw331_0)
         (try rw [show 0 * 2 = 0 from rfl] at hw331_0)
         (try rw [Addr.add_zero'] at hw331_0)
         cases e331
         have qi331:(0 < l0.length) = True:=eq_true (by omega)
         (try rw [show ((0:Int)).toNat = 0 from rfl] at hx331_0)
         (try rw [show 0 * 2 = 0 from rfl] at hx331_0)
         (try rw [Addr.add_zero'] at hx331_0)
         (try rw [show ((0:Int)).toNat = 0 from rfl] at hx331_1)
         (try rw [show 0 * 2 = 0 from rfl] at hx331_1)
         (try rw [Addr.add_zero'] at hx331_1)
         replace hx331_0:=qy HB hx331_0
         replace hx331_1:=qy HB hx331_1
         replace p331:=eq_true p331
         replace q331:=eq_true q331
         have p333:0 ≤ (x5_1:Int):=qd
         have q333:x5_1 < (t324.length:Int):=qd
         obtain ⟨ad333,A333_0,c333_0,e333,hx333_0,hl333_0,hi333_0⟩:=at_L4 (Kd.S_reads' HO_3.out).2.2 x5_1 p333 q333
         obtain rfl:ad328 = ad333:=(by injection e333)
         obtain ⟨ce333,hce333,hMe333,hcc333⟩:=Kd.S_get HO_3.out [] x5_1 p333 (by first|exact q333|exact qd|(have e_:=(Kd.S_reads' HO_3.out).1;omega))
         obtain ⟨ve333_0,rfl,ge333_0⟩:=hMe333
         have hv333_0:=hcc333 0 _ rfl
         rw [Nat.add_zero,show ((Kd.slice 65 k65)).sz = 1 from rfl,Nat.mul_one] at hv333_0
         replace hv333_0:=Option.some.inj (hv333_0.symm.trans hx333_0)
         rw [hv333_0] at ge333_0
         have HL333_0:=zA (show Kd.R k65 65 _ _ _ _ (rd_L4 t324 x5_1) from ge333_0)
         clear hv333_0 ge333_0
         clear hcc333 hce333
         have HR333_0:=zA hi333_0
         have HC333_0:=zA hl333_0
         clear hi333_0 hl333_0
         replace p333:=eq_true p333
         replace q333:=eq_true q333
         have ea_:=Option.some.inj (hx328_0.symm.trans hx333_0)
         injection ea_ with ea_ en_ ec_
         subst ea_
         subst ec_
         clear en_
         refine start_ (n:=22) (S:=fun w'=>w'.cell? (ad328.add (x5_1).toNat) = some (.slice (some ad329) (rd_L4 t324 x5_1).length c328_0)∧w'.cell? ad329 = some (.int .i64 ((rd_T65 (rd_L4 t324 x5_1) 0).f0))∧w'.cell? ⟨ad329.block,ad329.off + 1,none⟩ = some (.int .i64 ((rd_T65 (rd_L4 t324 x5_1) 0).f1))∧w'.cell? ad331 = some (.int .i64 ((rd_T65 l0 0).f0))∧w'.cell? ⟨ad331.block,ad331.off + 1,none⟩ = some (.int .i64 ((rd_T65 l0 0).f1))∧w'.cell? (ad328.add (x5_1).toNat) = some (.slice (some ad329) (rd_L4 t324 x5_1).length c328_0)) (ds:=[]) #[false,false,false,false,false,false,false,false,false,false,false,false,false,false,false,false,false,false,false,false,false,false] (by kernel_rfl) rfl rfl ⟨hx328_0,hx329_0,hx329_1,(qy HB hw331_0 :),(qy HB hw331_1 :),hx333_0⟩ (fun hHeld=>?_);refine with_tabW foretellref_typed.tab5 foretellref_typed.bits5 (fun HT_ HW_=>?_)
         generalize wr.drew = w16 at HO_3 HB HL328_0 HL333_0 HR328_0 HR333_0 hx328_0 hx329_0 hx329_1 hx331_0 hx331_1 hx333_0 hHeld ⊢
         refine pq 0 (some 17) HT_ ?_
         refine pq 1 (some 18) HT_ ?_
         refine pq 2 (some 19) HT_ ?_
         refine pq 8 (some 25) HT_ ?_
         refine pq 9 (some 26) HT_ ?_
         refine pq 10 (some 27) HT_ ?_
         refine tq 3 (some 20) HT_ HW_ hHeld ?_
         refine pq 4 (some 21) HT_ ?_
         refine pq 5 (some 22) HT_ ?_
         refine tq 6 (some 23) HT_ HW_ hHeld ?_
         refine tq 11 (some 28) HT_ HW_ hHeld ?_
         refine oq 7 (some 24) HT_ (fun K hK=>?_)
         refine gq Tryd.func107 #[.int .i64 ((rd_T65 (rd_L4 t324 x5_1) 0).f0)] ?_
         with_reducible refine (foretellref_makesTruth.calls ((rd_T65 (rd_L4 t324 x5_1) 0).f0) t330 _ A7.out).mono ?_
         rintro e w' ⟨rfl,⟨nd,rfl⟩⟩
         refine ⟨_,rfl,?_⟩
         refine hK.out _ _ ⟨hHeld.1,hHeld.2.1,hHeld.2.2.1,(qy HB hw331_0 :),(qy HB hw331_1 :),hHeld.2.2.2.2.2⟩ (fun hHeld=>?_)
         clear hK K
         refine norm_ (a':=?_) ?_ ?_
         rotate_left
         ·show Act.put _ (some 24) _ = _
          simp only [Act.put,zX,zY,zZ,i64_w,i32_w]
          rfl
         refine oq 12 (some 29) HT_ (fun K hK=>?_)
         refine gq Tryd.func112 #[.int .i64 ((rd_T65 l0 0).f0)] ?_
         with_reducible refine (foretellref_takesTruth.calls ((rd_T65 l0 0).f0) t332 _ A9.out).mono ?_
         rintro e w' ⟨rfl,⟨nd,rfl⟩⟩
         refine ⟨_,rfl,?_⟩
         refine hK.out _ _ ⟨hHeld.1,hHeld.2.1,hHeld.2.2.1,(qy HB hw331_0 :),(qy HB hw331_1 :),hHeld.2.2.2.2.2⟩ (fun hHeld=>?_)
         clear hK K
         refine norm_ (a':=?_) ?_ ?_
         rotate_left
         ·show Act.put _ (some 29) _ = _
          simp only [Act.put,zX,zY,zZ,i64_w,i32_w]
          rfl
         refine pq 13 (some 30) HT_ ?_
         refine pq 14 (some 31) HT_ ?_
         refine pq 15 (some 32) HT_ ?_
         refine pq 16 (some 33) HT_ ?_
         refine pq 17 (some 34) HT_ ?_
         refine tq 18 (some 35) HT_ HW_ hHeld ?_
         refine oq 19 (some 36) HT_ (fun K hK=>?_)
         refine gq Tryd.func106 #[.slice (some ad329) (rd_L4 t324 x5_1).length c328_0] ?_
         with_reducible refine (ih k1 (qo HK1) _ _ (rd_L4 t324 x5_1) t334 _ (qu (qC HR333_0)) HC333_0.out A13.out).mono ?_
         rintro e w17 ⟨rfl,hb⟩
         have HS0_:=(hb.cell (zB _ _ (hHeld.1))).trans (hHeld.1)
         have HS1_:=(hb.cell (zB _ _ (hHeld.2.1))).trans (hHeld.2.1)
         have HS2_:=(hb.cell (zB _ _ (hHeld.2.2.1))).trans (hHeld.2.2.1)
         have HS5_:=(hb.cell (zB _ _ (hHeld.2.2.2.2.2))).trans (hHeld.2.2.2.2.2)
         refine ⟨_,rfl,?_⟩
         replace HO_3:=zA (Kd.S_below (qS HO_3) hb)
         replace HL328_0:=zA (Kd.R_below (qR HL328_0) hb)
         replace HL333_0:=zA (Kd.R_below (qR HL333_0) hb)
         replace HR328_0:=zA (zT (qC HR328_0) hb)
         replace HR333_0:=zA (zT (qC HR333_0) hb)
         replace HB:=zA (zH qb hb)
         (try clear hb)
         (try clear hb2)
         (try clear hk)
         (try clear hi)
         refine hK.out _ _ ⟨HS0_,HS1_,HS2_,(qy HB hw331_0 :),(qy HB hw331_1 :),HS5_⟩ (fun hHeld=>?_)
         clear hK K
         refine norm_ (a':=?_) ?_ ?_
         rotate_left
         ·show Act.put _ (some 36) _ = _
          simp only [Act.put,zX,zY,zZ,i64_w,i32_w]
          rfl
         refine pq 20 (some 37) HT_ ?_
         refine pq 21 (some 38) HT_ ?_
         refine done_ (done_of HT_.out (by kernel_rfl)) ?_
         try go_wp2
         go_roundg k1
         case measure=>have:=HK1.out;omega
         case rel=>exact ⟨(wrap64 (x5_1 + 1)),qr,H',⟨qo HK1⟩,⟨qS HO_3⟩,⟨qb⟩⟩
        ·rw [if_neg c14] at H
         have c14b0:(t334 == 0) = false:=beq_eq_false_iff_ne.mpr c14
         have c14b1:(t334 != 0) = true:=bne_iff_ne.mpr c14
         obtain rfl:=Option.some.inj H
         obtain ⟨Ao18,co18,eo18⟩:=Kd.S_slice HO_3.out
         subst eo18
         try go_wp2
         replace HO_3:=zA (Kd.S_drew HO_3.out)
         replace HB:=zA (zE HB.out)
         have p328:0 ≤ (x5_1:Int):=qd
         have q328:x5_1 < (t324.length:Int):=qd
         obtain ⟨ad328,A328_0,c328_0,e328,hx328_0,hl328_0,hi328_0⟩:=at_L4 (Kd.S_reads' HO_3.out).2.2 x5_1 p328 q328
         cases e328
         obtain ⟨ce328,hce328,hMe328,hcc328⟩:=Kd.S_get HO_3.out [] x5_1 p328 (by first|exact q328|exact qd|(have e_:=(Kd.S_reads' HO_3.out).1;omega))
         obtain ⟨ve328_0,rfl,ge328_0⟩:=hMe328
         have hv328_0:=hcc328 0 _ rfl
         rw [Nat.add_zero,show ((Kd.slice 65 k65)).sz = 1 from rfl,Nat.mul_one] at hv328_0
         replace hv328_0:=Option.some.inj (hv328_0.symm.trans hx328_0)
         rw [hv328_0] at ge328_0
         have HL328_0:=zA (show Kd.R k65 65 _ _ _ _ (rd_L4 t324 x5_1) from ge328_0)
         clear hv328_0 ge328_0
         clear hcc328 hce328
         have HR328_0:=zA hi328_0
         have HC328_0:=zA hl328_0
         clear hi328_0 hl328_0
         replace p328:=eq_true p328
         replace q328:=eq_true q328
         have p329:0 ≤ (0:Int):=(by omega)
         have q329:0 < ((rd_L4 t324 x5_1).length:Int):=qd
         obtain ⟨ad329,e329,hx329_0,hx329_1⟩:=at_T65 (qC HR328_0) 0 p329 q329
         cases e329
         have qi329:(0 < (rd_L4 t324 x5_1).length) = True:=eq_true (by omega)
         (try rw [show ((0:Int)).toNat = 0 from rfl] at hx329_0)
         (try rw [show 0 * 2 = 0 from rfl] at hx329_0)
         (try rw [Addr.add_zero'] at hx329_0)
         (try rw [show ((0:Int)).toNat = 0 from rfl] at hx329_1)
         (try rw [show 0 * 2 = 0 from rfl] at hx329_1)
         (try rw [Addr.add_zero'] at hx329_1)
         replace p329:=eq_true p329
         replace q329:=eq_true q329
         have p331:0 ≤ (0:Int):=(by omega)
         have q331:0 < (l0.length:Int):=qd
         obtain ⟨ad331,e331,hx331_0,hx331_1⟩:=at_T65 HR0.out 0 p331 q331
         have hw331_1:=hx331_1
         (try rw [show ((0:Int)).toNat = 0 from rfl] at hw331_1)
         (try rw [show 0 * 2 = 0 from rfl] at hw331_1)
         (try rw [Addr.add_zero'] at hw331_1)
         have hw331_0:=hx331_0
         (try rw [show ((0:Int)).toNat = 0 from rfl] at hw331_0)
         (try rw [show 0 * 2 = 0 from rfl] at hw331_0)
         (try rw [Addr.add_zero'] at hw331_0)
         cases e331
         have qi331:(0 < l0.length) = True:=eq_true (by omega)
         (try rw [show ((0:Int)).toNat = 0 from rfl] at hx331_0)
         (try rw [show 0 * 2 = 0 from rfl] at hx331_0)
         (try rw [Addr.add_zero'] at hx331_0)
         (try rw [show ((0:Int)).toNat = 0 from rfl] at hx331_1)
         (try rw [show 0 * 2 = 0 from rfl] at hx331_1)
         (try rw [Addr.add_zero'] at hx331_1)
         replace hx331_0:=qy HB hx331_0
         replace hx331_1:=qy HB hx331_1
         replace p331:=eq_true p331
         replace q331:=eq_true q331
         have p333:0 ≤ (x5_1:Int):=qd
         have q333:x5_1 < (t324.length:Int):=qd
         obtain ⟨ad333,A333_0,c333_0,e333,hx333_0,hl333_0,hi333_0⟩:=at_L4 (Kd.S_reads' HO_3.out).2.2 x5_1 p333 q333
         obtain rfl:ad328 = ad333:=(by injection e333)
         obtain ⟨ce333,hce333,hMe333,hcc333⟩:=Kd.S_get HO_3.out [] x5_1 p333 (by first|exact q333|exact qd|(have e_:=(Kd.S_reads' HO_3.out).1;omega))
         obtain ⟨ve333_0,rfl,ge333_0⟩:=hMe333
         have hv333_0:=hcc333 0 _ rfl
         rw [Nat.add_zero,show ((Kd.slice 65 k65)).sz = 1 from rfl,Nat.mul_one] at hv333_0
         replace hv333_0:=Option.some.inj (hv333_0.symm.trans hx333_0)
         rw [hv333_0] at ge333_0
         have HL333_0:=zA (show Kd.R k65 65 _ _ _ _ (rd_L4 t324 x5_1) from ge333_0)
         clear hv333_0 ge333_0
         clear hcc333 hce333
         have HR333_0:=zA hi333_0
         have HC333_0:=zA hl333_0
         clear hi333_0 hl333_0
         replace p333:=eq_true p333
         replace q333:=eq_true q333
         have ea_:=Option.some.inj (hx328_0.symm.trans hx333_0)
         injection ea_ with ea_ en_ ec_
         subst ea_
         subst ec_
         clear en_
         refine start_ (n:=22) (S:=fun w'=>w'.cell? (ad328.add (x5_1).toNat) = some (.slice (some ad329) (rd_L4 t324 x5_1).length c328_0)∧w'.cell? ad329 = some (.int .i64 ((rd_T65 (rd_L4 t324 x5_1) 0).f0))∧w'.cell? ⟨ad329.block,ad329.off + 1,none⟩ = some (.int .i64 ((rd_T65 (rd_L4 t324 x5_1) 0).f1))∧w'.cell? ad331 = some (.int .i64 ((rd_T65 l0 0).f0))∧w'.cell? ⟨ad331.block,ad331.off + 1,none⟩ = some (.int .i64 ((rd_T65 l0 0).f1))∧w'.cell? (ad328.add (x5_1).toNat) = some (.slice (some ad329) (rd_L4 t324 x5_1).length c328_0)) (ds:=[]) #[false,false,false,false,false,false,false,false,false,false,false,false,false,false,false,false,false,false,false,false,false,false] (by kernel_rfl) rfl rfl ⟨hx328_0,hx329_0,hx329_1,(qy HB hw331_0 :),(qy HB hw331_1 :),hx333_0⟩ (fun hHeld=>?_);refine with_tabW foretellref_typed.tab5 foretellref_typed.bits5 (fun HT_ HW_=>?_)
         generalize wr.drew = w19 at HO_3 HB HL328_0 HL333_0 HR328_0 HR333_0 hx328_0 hx329_0 hx329_1 hx331_0 hx331_1 hx333_0 hHeld ⊢
         refine pq 0 (some 17) HT_ ?_
         refine pq 1 (some 18) HT_ ?_
         refine pq 2 (some 19) HT_ ?_
         refine pq 8 (some 25) HT_ ?_
         refine pq 9 (some 26) HT_ ?_
         refine pq 10 (some 27) HT_ ?_
         refine tq 3 (some 20) HT_ HW_ hHeld ?_
         refine pq 4 (some 21) HT_ ?_
         refine pq 5 (some 22) HT_ ?_
         refine tq 6 (some 23) HT_ HW_ hHeld ?_
         refine tq 11 (some 28) HT_ HW_ hHeld ?_
         refine oq 7 (some 24) HT_ (fun K hK=>?_)
         refine gq Tryd.func107 #[.int .i64 ((rd_T65 (rd_L4 t324 x5_1) 0).f0)] ?_
         with_reducible refine (foretellref_makesTruth.calls ((rd_T65 (rd_L4 t324 x5_1) 0).f0) t330 _ A7.out).mono ?_
         rintro e w' ⟨rfl,⟨nd,rfl⟩⟩
         refine ⟨_,rfl,?_⟩
         refine hK.out _ _ ⟨hHeld.1,hHeld.2.1,hHeld.2.2.1,(qy HB hw331_0 :),(qy HB hw331_1 :),hHeld.2.2.2.2.2⟩ (fun hHeld=>?_)
         clear hK K
         refine norm_ (a':=?_) ?_ ?_
         rotate_left
         ·show Act.put _ (some 24) _ = _
          simp only [Act.put,zX,zY,zZ,i64_w,i32_w]
          rfl
         refine oq 12 (some 29) HT_ (fun K hK=>?_)
         refine gq Tryd.func112 #[.int .i64 ((rd_T65 l0 0).f0)] ?_
         with_reducible refine (foretellref_takesTruth.calls ((rd_T65 l0 0).f0) t332 _ A9.out).mono ?_
         rintro e w' ⟨rfl,⟨nd,rfl⟩⟩
         refine ⟨_,rfl,?_⟩
         refine hK.out _ _ ⟨hHeld.1,hHeld.2.1,hHeld.2.2.1,(qy HB hw331_0 :),(qy HB hw331_1 :),hHeld.2.2.2.2.2⟩ (fun hHeld=>?_)
         clear hK K
         refine norm_ (a':=?_) ?_ ?_
         rotate_left
         ·show Act.put _ (some 29) _ = _
          simp only [Act.put,zX,zY,zZ,i64_w,i32_w]
          rfl
         refine pq 13 (some 30) HT_ ?_
         refine pq 14 (some 31) HT_ ?_
         refine pq 15 (some 32) HT_ ?_
         refine pq 16 (some 33) HT_ ?_
         refine pq 17 (some 34) HT_ ?_
         refine tq 18 (some 35) HT_ HW_ hHeld ?_
         refine oq 19 (some 36) HT_ (fun K hK=>?_)
         refine gq Tryd.func106 #[.slice (some ad329) (rd_L4 t324 x5_1).length c328_0] ?_
         with_reducible refine (ih k1 (qo HK1) _ _ (rd_L4 t324 x5_1) t334 _ (qu (qC HR333_0)) HC333_0.out A13.out).mono ?_
         rintro e w20 ⟨rfl,hb⟩
         have HS0_:=(hb.cell (zB _ _ (hHeld.1))).trans (hHeld.1)
         have HS1_:=(hb.cell (zB _ _ (hHeld.2.1))).trans (hHeld.2.1)
         have HS2_:=(hb.cell (zB _ _ (hHeld.2.2.1))).trans (hHeld.2.2.1)
         have HS5_:=(hb.cell (zB _ _ (hHeld.2.2.2.2.2))).trans (hHeld.2.2.2.2.2)
         refine ⟨_,rfl,?_⟩
         replace HO_3:=zA (Kd.S_below (qS HO_3) hb)
         replace HL328_0:=zA (Kd.R_below (qR HL328_0) hb)
         replace HL333_0:=zA (Kd.R_below (qR HL333_0) hb)
         replace HR328_0:=zA (zT (qC HR328_0) hb)
         replace HR333_0:=zA (zT (qC HR333_0) hb)
         replace HB:=zA (zH qb hb)
         (try clear hb)
         (try clear hb2)
         (try clear hk)
         (try clear hi)
         refine hK.out _ _ ⟨HS0_,HS1_,HS2_,(qy HB hw331_0 :),(qy HB hw331_1 :),HS5_⟩ (fun hHeld=>?_)
         clear hK K
         refine norm_ (a':=?_) ?_ ?_
         rotate_left
         ·show Act.put _ (some 36) _ = _
          simp only [Act.put,zX,zY,zZ,i64_w,i32_w]
          rfl
         refine pq 20 (some 37) HT_ ?_
         refine pq 21 (some 38) HT_ ?_
         refine done_ (done_of HT_.out (by kernel_rfl)) ?_
         try go_wp2
         go_ret
         exact ⟨qe,qb⟩
      ·rw [if_neg c8] at H
       exact absurd H (by simp)
     ·rw [if_neg c6] at H
      exact absurd H (by simp)
    ·exact absurd H (by simp)
   ·obtain rfl:=Option.some.inj H
    obtain ⟨Ao21,co21,eo21⟩:=Kd.S_slice HO_3.out
    subst eo21
    go_wp2
    go_ret
    exact ⟨qe,qb⟩
end Go.Proofs.YthffpjkkmkjplaaDoor.S
namespace Go.Proofs.YthffpjkkmkjplaaDoor.S
open Go.Proofs.YthffpjkkmkjplaaDoor.Al
open Option renaming bind_eq_some_iff → zb
open Go.Proofs.YthffpjkkmkjplaaDoorW.PrintWords renaming below_step → zH, blk_frozen → zJ, gate_callee → zU, gate_dst → zV
open Go.Proofs.YthffpjkkmkjplaaDoor.Sq
open Go.RowKit Go.Proofs.YthffpjkkmkjplaaDoorW.PrintWords Go.Proofs.YthffpjkkmkjplaaDoorW.PrintLast Go.Proofs.YthffpjkkmkjplaaDoorW.PrintMore
attribute [local go_sem] max2_int min2_int max_two min_two max_three min_three max_four min_four
set_option linter.unusedVariables false
set_option linter.unusedSimpArgs false
def foretellref_ExprChecked.l0:Nat → List (S65) → Int → Int → Option (Bool × Int)
 | 0,_,_,_=>none
 | k + 1,x0,x1,x8=>if x8 < (x0.length:Int) then (if 0 ≤ x8 then (if ((rd_T65 x0 x8).f0) > 12 then (some (false,13)) else (if ((rd_T65 x0 x8).f0) = 1 then ((foretellref_In.f ((rd_T65 x0 x8).f1) (-1000) 1000).bind fun t342=>(if t342 = true then (if ((rd_T65 x0 x8).f0) = 2 then ((foretellref_In.f ((rd_T65 x0 x8).f1) 0 (wrap64 (x1 - 1))).bind fun t343=>(if t343 = true then (if ((rd_T65 x0 x8).f0) > 2 then (if ((rd_T65 x0 x8).f1) = 0 then (foretellref_ExprChecked.l0 k x0 x1 (wrap64 (x8 + 1))) else (some (false,2))) else (foretellref_ExprChecked.l0 k x0 x1 (wrap64 (x8 + 1)))) else (some (false,2)))) else (if ((rd_T65 x0 x8).f0) > 2 then (if ((rd_T65 x0 x8).f1) = 0 then (foretellref_ExprChecked.l0 k x0 x1 (wrap64 (x8 + 1))) else (some (false,2))) else (foretellref_ExprChecked.l0 k x0 x1 (wrap64 (x8 + 1))))) else (some (false,2)))) else (if ((rd_T65 x0 x8).f0) = 2 then ((foretellref_In.f ((rd_T65 x0 x8).f1) 0 (wrap64 (x1 - 1))).bind fun t344=>(if t344 = true then (if ((rd_T65 x0 x8).f0) > 2 then (if ((rd_T65 x0 x8).f1) = 0 then (foretellref_ExprChecked.l0 k x0 x1 (wrap64 (x8 + 1))) else (some (false,2))) else (foretellref_ExprChecked.l0 k x0 x1 (wrap64 (x8 + 1)))) else (some (false,2)))) else (if ((rd_T65 x0 x8).f0) > 2 then (if ((rd_T65 x0 x8).f1) = 0 then (foretellref_ExprChecked.l0 k x0 x1 (wrap64 (x8 + 1))) else (some (false,2))) else (foretellref_ExprChecked.l0 k x0 x1 (wrap64 (x8 + 1))))))) else (none)) else ((foretellref_typed.f k x0).bind fun t345=>(if t345 = 0 then (if 0 < (x0.length:Int) then ((foretellref_makesTruth.f ((rd_T65 x0 0).f0)).bind fun t347=>(some (t347,0))) else (none)) else (some (false,5))))
def foretellref_ExprChecked.f (k:Nat) (l0:List (S65)) (a1:Int):Option (Bool × Int):=(foretellref_In.f a1 0 6).bind fun t335=>(if t335 = true then ((foretellref_EndsOf.f k l0).bind fun bt336=>(if bt336.2 = 0 then (foretellref_ExprChecked.l0 k l0 a1 0) else (some (false,bt336.2)))) else (some (false,2)))
theorem foretellref_ExprChecked.mono_l:∀ k,(∀ y0 y1 y2,LeO (foretellref_ExprChecked.l0 k y0 y1 y2) (foretellref_ExprChecked.l0 (k + 1) y0 y1 y2))
 | 0=>fun _ _ _ r h=>by simp [foretellref_ExprChecked.l0] at h
 | k + 1=>by
  have ih0:=foretellref_ExprChecked.mono_l k
  ·intro y0 y1 y2
   unfold foretellref_ExprChecked.l0
   exact qM (And.intro @foretellref_EndsOf.mono @foretellref_typed.mono)
theorem foretellref_ExprChecked.mono:∀ a0 a1 k,LeO (foretellref_ExprChecked.f k a0 a1) (foretellref_ExprChecked.f (k + 1) a0 a1):=by
 intro a0 a1 k
 have ih0:=foretellref_ExprChecked.mono_l k
 unfold foretellref_ExprChecked.f
 exact qM (And.intro @foretellref_EndsOf.mono @foretellref_typed.mono)
set_option maxHeartbeats 8000000 in
set_option maxRecDepth 100000 in
theorem foretellref_ExprChecked.calls (k:Nat) (A0:Option Addr) (c0:Nat) (l0:List (S65)) (a1:Int) (r1:Bool) (r2:Int) (w:World) (hr0:Kd.C k65 w A0 l0.length l0) (hc0:l0.length ≤ c0) (h:foretellref_ExprChecked.f k l0 a1 = some (r1,r2)) :
  Calls Tryd.prog 89 #[.slice A0 l0.length c0,.int .i64 a1] w fun e w'=>e = .returned (.tuple #[.bool r1,.int .i64 r2])∧Below w.heap.size w w':=by
 have hu65:=Tryd.underlying65
 have HR0:=zA hr0
 have HC0:=zA hc0
 clear hr0 hc0
 have HB:=zA (Below.refl w.heap.size w)
 have H:((foretellref_In.f a1 0 6).bind fun t335=>(if t335 = true then ((foretellref_EndsOf.f k l0).bind fun bt336=>(if bt336.2 = 0 then (foretellref_ExprChecked.l0 k l0 a1 0) else (some (false,bt336.2)))) else (some (false,2)))) = some (r1,r2):=h
 clear h
 replace H:=zb.mp H
 obtain ⟨t335,A30,H⟩:=H
 replace H:(if t335 = true then ((foretellref_EndsOf.f k l0).bind fun bt336=>(if bt336.2 = 0 then (foretellref_ExprChecked.l0 k l0 a1 0) else (some (false,bt336.2)))) else (some (false,2))) = some (r1,r2):=H
 have A3:=zA A30
 clear A30
 by_cases c4:t335 = true
 ·subst c4
  have H1:((foretellref_EndsOf.f k l0).bind fun bt336=>(if bt336.2 = 0 then (foretellref_ExprChecked.l0 k l0 a1 0) else (some (false,bt336.2)))) = some (r1,r2):=by rw [if_pos rfl] at H;exact H
  clear H
  have H:=H1
  clear H1
  replace H:=zb.mp H
  obtain ⟨⟨t336,t337⟩,A50,H⟩:=H
  replace H:(if t337 = 0 then (foretellref_ExprChecked.l0 k l0 a1 0) else (some (false,t337))) = some (r1,r2):=H
  have A5:=zA A50
  clear A50
  by_cases c6:t337 = 0
  ·rw [if_pos c6] at H
   have c6b0:(t337 == 0) = true:=beq_iff_eq.mpr c6
   have c6b1:(t337 != 0) = false:=bne_eq_false_iff_eq.mpr c6
   clear c6
   have H':=zA H
   clear H
   go_enter Tryd.func89,Tryd.ntmps89
   go_wp2_with (first|((with_reducible refine zU (f:=50) rfl ?_);refine gL (some 11) Tryd.func50 #[.int .i64 a1,.int .i64 0,.int .i64 6] ?_;(with_reducible refine (foretellref_In.calls a1 0 6 true _ A3.out).mono ?_);rintro e w' ⟨rfl,⟨nd,rfl⟩⟩;refine ⟨_,rfl,?_⟩)|((with_reducible refine zU (f:=74) rfl ?_);refine gL (some 15) Tryd.func74 #[.slice A0 l0.length c0] ?_;(with_reducible refine (foretellref_EndsOf.calls k _ _ l0 t336 t337 _ (qu HR0.out) HC0.out A5.out).mono ?_);rintro e w7 ⟨v338,rfl,ho0,hb⟩;refine ⟨_,rfl,?_⟩;have HO339:=zA (Kd.R_lower ho0 qs);replace HB:=zA (zH qb hb);clear ho0 hb))
   go_loopg [8] k (fun kq v8 w'=>∃ (x8_1:Int),v8 = .int .i64 x8_1∧Aside0 (foretellref_ExprChecked.l0 kq l0 a1 x8_1 = some (r1,r2))∧Aside0 (kq ≤ k)∧Aside0 (Below w.heap.size w w'))
   case atStart=>exact ⟨(0),qr,H',⟨Nat.le_refl _⟩,⟨qb⟩⟩
   case round =>
    clear H'
    try clear p2
    try clear c4
    try clear c5
    try clear c6
    try clear c6b0
    try clear c6b1
    try clear c7
    obtain ⟨x8_1,rfl,HA,HK1,HB⟩:=hrel
    cases gk with
    | zero=>exact absurd HA.out (by simp [foretellref_ExprChecked.l0])
    | succ k1 =>
     have H:=HA.out
     clear HA
     simp only [foretellref_ExprChecked.l0] at H
     rcases qj H with ⟨c8b0,H⟩|⟨c8b0,H⟩
     ·rcases qj H with ⟨c9b0,H⟩|⟨c9,H⟩
      ·by_cases c10:((rd_T65 l0 x8_1).f0) > 12
       ·rw [if_pos c10] at H
        have c10b0:decide (12 < ((rd_T65 l0 x8_1).f0)) = true:=zQ c10
        clear c10
        simp only [Option.some.injEq,Prod.mk.injEq] at H
        obtain ⟨rfl,rfl⟩:=H
        have p340:0 ≤ (x8_1:Int):=qd
        have q340:x8_1 < (l0.length:Int):=qd
        obtain ⟨ad340,e340,hx340_0,hx340_1⟩:=at_T65 HR0.out x8_1 p340 q340
        cases e340
        replace hx340_0:=qy HB hx340_0
        replace hx340_1:=qy HB hx340_1
        replace p340:=eq_true p340
        replace q340:=eq_true q340
        go_wp2_with (first|((with_reducible refine zV (N:=9) rfl ?_);refine bq 9 (cs:=#[.int .i64 0,.int .i64 0]) (t:=65) ?_;intro gb341 hg w11 hbox hb;have BK341:=zA (hbox);have GW341:=zA (qg hg);have GE341:=zA (qg hg);replace HB:=zA (zH qb hb);clear hb hbox hg;have hcz12_0:=qx BK341 0;have hcz12_1:=qx BK341 1;have hfz12_0:=zJ BK341.out 0;have hfz12_1:=zJ BK341.out 1))
        go_ret2
        exact ⟨qe,qb⟩
       ·rw [if_neg c10] at H
        have c10b0:decide (12 < ((rd_T65 l0 x8_1).f0)) = false:=zR c10
        clear c10
        by_cases c13:((rd_T65 l0 x8_1).f0) = 1
        ·rw [if_pos c13] at H
         have c13b0:(((rd_T65 l0 x8_1).f0) == 1) = true:=beq_iff_eq.mpr c13
         have c13b1:(((rd_T65 l0 x8_1).f0) != 1) = false:=bne_eq_false_iff_eq.mpr c13
         clear c13
         replace H:=zb.mp H
         obtain ⟨t342,A140,H⟩:=H
         replace H:(if t342 = true then (if ((rd_T65 l0 x8_1).f0) = 2 then ((foretellref_In.f ((rd_T65 l0 x8_1).f1) 0 (wrap64 (a1 - 1))).bind fun t343=>(if t343 = true then (if ((rd_T65 l0 x8_1).f0) > 2 then (if ((rd_T65 l0 x8_1).f1) = 0 then (foretellref_ExprChecked.l0 k1 l0 a1 (wrap64 (x8_1 + 1))) else (some (false,2))) else (foretellref_ExprChecked.l0 k1 l0 a1 (wrap64 (x8_1 + 1)))) else (some (false,2)))) else (if ((rd_T65 l0 x8_1).f0) > 2 then (if ((rd_T65 l0 x8_1).f1) = 0 then (foretellref_ExprChecked.l0 k1 l0 a1 (wrap64 (x8_1 + 1))) else (some (false,2))) else (foretellref_ExprChecked.l0 k1 l0 a1 (wrap64 (x8_1 + 1))))) else (some (false,2))) = some (r1,r2):=H
         have A14:=zA A140
         clear A140
         by_cases c15:t342 = true
         ·subst c15
          have H1:(if ((rd_T65 l0 x8_1).f0) = 2 then ((foretellref_In.f ((rd_T65 l0 x8_1).f1) 0 (wrap64 (a1 - 1))).bind fun t343=>(if t343 = true then (if ((rd_T65 l0 x8_1).f0) > 2 then (if ((rd_T65 l0 x8_1).f1) = 0 then (foretellref_ExprChecked.l0 k1 l0 a1 (wrap64 (x8_1 + 1))) else (some (false,2))) else (foretellref_ExprChecked.l0 k1 l0 a1 (wrap64 (x8_1 + 1)))) else (some (false,2)))) else (if ((rd_T65 l0 x8_1).f0) > 2 then (if ((rd_T65 l0 x8_1).f1) = 0 then (foretellref_ExprChecked.l0 k1 l0 a1 (wrap64 (x8_1 + 1))) else (some (false,2))) else (foretellref_ExprChecked.l0 k1 l0 a1 (wrap64 (x8_1 + 1))))) = some (r1,r2):=by rw [if_pos rfl] at H;exact H
          clear H
          have H:=H1
          clear H1
          by_cases c16:((rd_T65 l0 x8_1).f0) = 2
          ·rw [if_pos c16] at H
           have c16b0:(((rd_T65 l0 x8_1).f0) == 2) = true:=beq_iff_eq.mpr c16
           have c16b1:(((rd_T65 l0 x8_1).f0) != 2) = false:=bne_eq_false_iff_eq.mpr c16
           clear c16
           replace H:=zb.mp H
           obtain ⟨t343,A170,H⟩:=H
           replace H:(if t343 = true then (if ((rd_T65 l0 x8_1).f0) > 2 then (if ((rd_T65 l0 x8_1).f1) = 0 then (foretellref_ExprChecked.l0 k1 l0 a1 (wrap64 (x8_1 + 1))) else (some (false,2))) else (foretellref_ExprChecked.l0 k1 l0 a1 (wrap64 (x8_1 + 1)))) else (some (false,2))) = some (r1,r2):=H
           have A17:=zA A170
           clear A170
           by_cases c18:t343 = true
           ·subst c18
            have H1:(if ((rd_T65 l0 x8_1).f0) > 2 then (if ((rd_T65 l0 x8_1).f1) = 0 then (foretellref_ExprChecked.l0 k1 l0 a1 (wrap64 (x8_1 + 1))) else (some (false,2))) else (foretellref_ExprChecked.l0 k1 l0 a1 (wrap64 (x8_1 + 1)))) = some (r1,r2):=by rw [if_pos rfl] at H;exact H
            clear H
            have H:=H1
            clear H1
            by_cases c19:((rd_T65 l0 x8_1).f0) > 2
            ·rw [if_pos c19] at H
             have c19b0:decide (2 < ((rd_T65 l0 x8_1).f0)) = true:=zQ c19
             clear c19
             by_cases c20:((rd_T65 l0 x8_1).f1) = 0
             ·rw [if_pos c20] at H
              have c20b0:(((rd_T65 l0 x8_1).f1) == 0) = true:=beq_iff_eq.mpr c20
              have c20b1:(((rd_T65 l0 x8_1).f1) != 0) = false:=bne_eq_false_iff_eq.mpr c20
              clear c20
              have H':=zA H
              clear H
              have p340:0 ≤ (x8_1:Int):=qd
              have q340:x8_1 < (l0.length:Int):=qd
              obtain ⟨ad340,e340,hx340_0,hx340_1⟩:=at_T65 HR0.out x8_1 p340 q340
              cases e340
              replace hx340_0:=qy HB hx340_0
              replace hx340_1:=qy HB hx340_1
              replace p340:=eq_true p340
              replace q340:=eq_true q340
              go_wp2_with (first|((with_reducible refine zV (N:=9) rfl ?_);refine bq 9 (cs:=#[.int .i64 0,.int .i64 0]) (t:=65) ?_;intro gb341 hg w21 hbox hb;have BK341:=zA (hbox);have GW341:=zA (qg hg);have GE341:=zA (qg hg);replace HB:=zA (zH qb hb);clear hb hbox hg;have hcz22_0:=qx BK341 0;have hcz22_1:=qx BK341 1;have hfz22_0:=zJ BK341.out 0;have hfz22_1:=zJ BK341.out 1)|(go_at_call 50;(with_reducible refine (foretellref_In.calls ((rd_T65 l0 x8_1).f1) (-1000) 1000 true _ A14.out).mono ?_);rintro e w' ⟨rfl,⟨nd,rfl⟩⟩)|(go_at_call 50;(with_reducible refine (foretellref_In.calls ((rd_T65 l0 x8_1).f1) 0 (wrap64 (a1 - 1)) true _ A17.out).mono ?_);rintro e w' ⟨rfl,⟨nd,rfl⟩⟩))
              go_roundg k1
              case measure=>have:=HK1.out;omega
              case rel=>exact ⟨(wrap64 (x8_1 + 1)),qr,H',⟨qo HK1⟩,⟨qb⟩⟩
             ·rw [if_neg c20] at H
              have c20b0:(((rd_T65 l0 x8_1).f1) == 0) = false:=beq_eq_false_iff_ne.mpr c20
              have c20b1:(((rd_T65 l0 x8_1).f1) != 0) = true:=bne_iff_ne.mpr c20
              simp only [Option.some.injEq,Prod.mk.injEq] at H
              obtain ⟨rfl,rfl⟩:=H
              have p340:0 ≤ (x8_1:Int):=qd
              have q340:x8_1 < (l0.length:Int):=qd
              obtain ⟨ad340,e340,hx340_0,hx340_1⟩:=at_T65 HR0.out x8_1 p340 q340
              cases e340
              replace hx340_0:=qy HB hx340_0
              replace hx340_1:=qy HB hx340_1
              replace p340:=eq_true p340
              replace q340:=eq_true q340
              go_wp2_with (first|((with_reducible refine zV (N:=9) rfl ?_);refine bq 9 (cs:=#[.int .i64 0,.int .i64 0]) (t:=65) ?_;intro gb341 hg w23 hbox hb;have BK341:=zA (hbox);have GW341:=zA (qg hg);have GE341:=zA (qg hg);replace HB:=zA (zH qb hb);clear hb hbox hg;have hcz24_0:=qx BK341 0;have hcz24_1:=qx BK341 1;have hfz24_0:=zJ BK341.out 0;have hfz24_1:=zJ BK341.out 1)|(go_at_call 50;(with_reducible refine (foretellref_In.calls ((rd_T65 l0 x8_1).f1) (-1000) 1000 true _ A14.out).mono ?_);rintro e w' ⟨rfl,⟨nd,rfl⟩⟩)|(go_at_call 50;(with_reducible refine (foretellref_In.calls ((rd_T65 l0 x8_1).f1) 0 (wrap64 (a1 - 1)) true _ A17.out).mono ?_);rintro e w' ⟨rfl,⟨nd,rfl⟩⟩))
              go_ret2
              exact ⟨qe,qb⟩
            ·rw [if_neg c19] at H
             have c19b0:decide (2 < ((rd_T65 l0 x8_1).f0)) = false:=zR c19
             clear c19
             have H':=zA H
             clear H
             have p340:0 ≤ (x8_1:Int):=qd
             have q340:x8_1 < (l0.length:Int):=qd
             obtain ⟨ad340,e340,hx340_0,hx340_1⟩:=at_T65 HR0.out x8_1 p340 q340
             cases e340
             replace hx340_0:=qy HB hx340_0
             replace hx340_1:=qy HB hx340_1
             replace p340:=eq_true p340
             replace q340:=eq_true q340
             go_wp2_with (first|((with_reducible refine zV (N:=9) rfl ?_);refine bq 9 (cs:=#[.int .i64 0,.int .i64 0]) (t:=65) ?_;intro gb341 hg w25 hbox hb;have BK341:=zA (hbox);have GW341:=zA (qg hg);have GE341:=zA (qg hg);replace HB:=zA (zH qb hb);clear hb hbox hg;have hcz26_0:=qx BK341 0;have hcz26_1:=qx BK341 1;have hfz26_0:=zJ BK341.out 0;have hfz26_1:=zJ BK341.out 1)|(go_at_call 50;(with_reducible refine (foretellref_In.calls ((rd_T65 l0 x8_1).f1) (-1000) 1000 true _ A14.out).mono ?_);rintro e w' ⟨rfl,⟨nd,rfl⟩⟩)|(go_at_call 50;(with_reducible refine (foretellref_In.calls ((rd_T65 l0 x8_1).f1) 0 (wrap64 (a1 - 1)) true _ A17.out).mono ?_);rintro e w' ⟨rfl,⟨nd,rfl⟩⟩))
             go_roundg k1
             case measure=>have:=HK1.out;omega
             case rel=>exact ⟨(wrap64 (x8_1 + 1)),qr,H',⟨qo HK1⟩,⟨qb⟩⟩
           ·replace c18:=Bool.eq_false_iff.mpr c18
            subst c18
            have H1:(some (false,2)) = some (r1,r2):=by rw [if_neg (show ¬ (false = true) by decide)] at H;exact H
            clear H
            have H:=H1
            clear H1
            simp only [Option.some.injEq,Prod.mk.injEq] at H
            obtain ⟨rfl,rfl⟩:=H
            have p340:0 ≤ (x8_1:Int):=qd
            have q340:x8_1 < (l0.length:Int):=qd
            obtain ⟨ad340,e340,hx340_0,hx340_1⟩:=at_T65 HR0.out x8_1 p340 q340
            cases e340
            replace hx340_0:=qy HB hx340_0
            replace hx340_1:=qy HB hx340_1
            replace p340:=eq_true p340
            replace q340:=eq_true q340
            go_wp2_with (first|((with_reducible refine zV (N:=9) rfl ?_);refine bq 9 (cs:=#[.int .i64 0,.int .i64 0]) (t:=65) ?_;intro gb341 hg w27 hbox hb;have BK341:=zA (hbox);have GW341:=zA (qg hg);have GE341:=zA (qg hg);replace HB:=zA (zH qb hb);clear hb hbox hg;have hcz28_0:=qx BK341 0;have hcz28_1:=qx BK341 1;have hfz28_0:=zJ BK341.out 0;have hfz28_1:=zJ BK341.out 1)|(go_at_call 50;(with_reducible refine (foretellref_In.calls ((rd_T65 l0 x8_1).f1) (-1000) 1000 true _ A14.out).mono ?_);rintro e w' ⟨rfl,⟨nd,rfl⟩⟩)|(go_at_call 50;(with_reducible refine (foretellref_In.calls ((rd_T65 l0 x8_1).f1) 0 (wrap64 (a1 - 1)) false _ A17.out).mono ?_);rintro e w' ⟨rfl,⟨nd,rfl⟩⟩))
            go_ret2
            exact ⟨qe,qb⟩
          ·rw [if_neg c16] at H
           have c16b0:(((rd_T65 l0 x8_1).f0) == 2) = false:=beq_eq_false_iff_ne.mpr c16
           have c16b1:(((rd_T65 l0 x8_1).f0) != 2) = true:=bne_iff_ne.mpr c16
           by_cases c29:((rd_T65 l0 x8_1).f0) > 2
           ·rw [if_pos c29] at H
            have c29b0:decide (2 < ((rd_T65 l0 x8_1).f0)) = true:=zQ c29
            clear c29
            by_cases c30:((rd_T65 l0 x8_1).f1) = 0
            ·rw [if_pos c30] at H
             have c30b0:(((rd_T65 l0 x8_1).f1) == 0) = true:=beq_iff_eq.mpr c30
             have c30b1:(((rd_T65 l0 x8_1).f1) != 0) = false:=bne_eq_false_iff_eq.mpr c30
             clear c30
             have H':=zA H
             clear H
             have p340:0 ≤ (x8_1:Int):=qd
             have q340:x8_1 < (l0.length:Int):=qd
             obtain ⟨ad340,e340,hx340_0,hx340_1⟩:=at_T65 HR0.out x8_1 p340 q340
             cases e340
             replace hx340_0:=qy HB hx340_0
             replace hx340_1:=qy HB hx340_1
             replace p340:=eq_true p340
             replace q340:=eq_true q340
             go_wp2_with (first|((with_reducible refine zV (N:=9) rfl ?_);refine bq 9 (cs:=#[.int .i64 0,.int .i64 0]) (t:=65) ?_;intro gb341 hg w31 hbox hb;have BK341:=zA (hbox);have GW341:=zA (qg hg);have GE341:=zA (qg hg);replace HB:=zA (zH qb hb);clear hb hbox hg;have hcz32_0:=qx BK341 0;have hcz32_1:=qx BK341 1;have hfz32_0:=zJ BK341.out 0;have hfz32_1:=zJ BK341.out 1)|(go_at_call 50;(with_reducible refine (foretellref_In.calls ((rd_T65 l0 x8_1).f1) (-1000) 1000 true _ A14.out).mono ?_);rintro e w' ⟨rfl,⟨nd,rfl⟩⟩))
             go_roundg k1
             case measure=>have:=HK1.out;omega
             case rel=>exact ⟨(wrap64 (x8_1 + 1)),qr,H',⟨qo HK1⟩,⟨qb⟩⟩
            ·rw [if_neg c30] at H
             have c30b0:(((rd_T65 l0 x8_1).f1) == 0) = false:=beq_eq_false_iff_ne.mpr c30
             have c30b1:(((rd_T65 l0 x8_1).f1) != 0) = true:=bne_iff_ne.mpr c30
             simp only [Option.some.injEq,Prod.mk.injEq] at H
             obtain ⟨rfl,rfl⟩:=H
             have p340:0 ≤ (x8_1:Int):=qd
             have q340:x8_1 < (l0.length:Int):=qd
             obtain ⟨ad340,e340,hx340_0,hx340_1⟩:=at_T65 HR0.out x8_1 p340 q340
             cases e340
             replace hx340_0:=qy HB hx340_0
             replace hx340_1:=qy HB hx340_1
             replace p340:=eq_true p340
             replace q340:=eq_true q340
             go_wp2_with (first|((with_reducible refine zV (N:=9) rfl ?_);refine bq 9 (cs:=#[.int .i64 0,.int .i64 0]) (t:=65) ?_;intro gb341 hg w33 hbox hb;have BK341:=zA (hbox);have GW341:=zA (qg hg);have GE341:=zA (qg hg);replace HB:=zA (zH qb hb);clear hb hbox hg;have hcz34_0:=qx BK341 0;have hcz34_1:=qx BK341 1;have hfz34_0:=zJ BK341.out 0;have hfz34_1:=zJ BK341.out 1)|(go_at_call 50;(with_reducible refine (foretellref_In.calls ((rd_T65 l0 x8_1).f1) (-1000) 1000 true _ A14.out).mono ?_);rintro e w' ⟨rfl,⟨nd,rfl⟩⟩))
             go_ret2
             exact ⟨qe,qb⟩
           ·rw [if_neg c29] at H
            have c29b0:decide (2 < ((rd_T65 l0 x8_1).f0)) = false:=zR c29
            clear c29
            have H':=zA H
            clear H
            have p340:0 ≤ (x8_1:Int):=qd
            have q340:x8_1 < (l0.length:Int):=qd
            obtain ⟨ad340,e340,hx340_0,hx340_1⟩:=at_T65 HR0.out x8_1 p340 q340
            cases e340
            replace hx340_0:=qy HB hx340_0
            replace hx340_1:=qy HB hx340_1
            replace p340:=eq_true p340
            replace q340:=eq_true q340
            go_wp2_with (first|((with_reducible refine zV (N:=9) rfl ?_);refine bq 9 (cs:=#[.int .i64 0,.int .i64 0]) (t:=65) ?_;intro gb341 hg w35 hbox hb;have BK341:=zA (hbox);have GW341:=zA (qg hg);have GE341:=zA (qg hg);replace HB:=zA (zH qb hb);clear hb hbox hg;have hcz36_0:=qx BK341 0;have hcz36_1:=qx BK341 1;have hfz36_0:=zJ BK341.out 0;have hfz36_1:=zJ BK341.out 1)|(go_at_call 50;(with_reducible refine (foretellref_In.calls ((rd_T65 l0 x8_1).f1) (-1000) 1000 true _ A14.out).mono ?_);rintro e w' ⟨rfl,⟨nd,rfl⟩⟩))
            go_roundg k1
            case measure=>have:=HK1.out;omega
            case rel=>exact ⟨(wrap64 (x8_1 + 1)),qr,H',⟨qo HK1⟩,⟨qb⟩⟩
         ·replace c15:=Bool.eq_false_iff.mpr c15
          subst c15
          have H1:(some (false,2)) = some (r1,r2):=by rw [if_neg (show ¬ (false = true) by decide)] at H;exact H
          clear H
          have H:=H1
          clear H1
          simp only [Option.some.injEq,Prod.mk.injEq] at H
          obtain ⟨rfl,rfl⟩:=H
          have p340:0 ≤ (x8_1:Int):=qd
          have q340:x8_1 < (l0.length:Int):=qd
          obtain ⟨ad340,e340,hx340_0,hx340_1⟩:=at_T65 HR0.out x8_1 p340 q340
          cases e340
          replace hx340_0:=qy HB hx340_0
          replace hx340_1:=qy HB hx340_1
          replace p340:=eq_true p340
          replace q340:=eq_true q340
          go_wp2_with (first|((with_reducible refine zV (N:=9) rfl ?_);refine bq 9 (cs:=#[.int .i64 0,.int .i64 0]) (t:=65) ?_;intro gb341 hg w37 hbox hb;have BK341:=zA (hbox);have GW341:=zA (qg hg);have GE341:=zA (qg hg);replace HB:=zA (zH qb hb);clear hb hbox hg;have hcz38_0:=qx BK341 0;have hcz38_1:=qx BK341 1;have hfz38_0:=zJ BK341.out 0;have hfz38_1:=zJ BK341.out 1)|(go_at_call 50;(with_reducible refine (foretellref_In.calls ((rd_T65 l0 x8_1).f1) (-1000) 1000 false _ A14.out).mono ?_);rintro e w' ⟨rfl,⟨nd,rfl⟩⟩))
          go_ret2
          exact ⟨qe,qb⟩
        ·rw [if_neg c13] at H
         have c13b0:(((rd_T65 l0 x8_1).f0) == 1) = false:=beq_eq_false_iff_ne.mpr c13
         have c13b1:(((rd_T65 l0 x8_1).f0) != 1) = true:=bne_iff_ne.mpr c13
         by_cases c39:((rd_T65 l0 x8_1).f0) = 2
         ·rw [if_pos c39] at H
          have c39b0:(((rd_T65 l0 x8_1).f0) == 2) = true:=beq_iff_eq.mpr c39
          have c39b1:(((rd_T65 l0 x8_1).f0) != 2) = false:=bne_eq_false_iff_eq.mpr c39
          clear c39
          replace H:=zb.mp H
          obtain ⟨t344,A400,H⟩:=H
          replace H:(if t344 = true then (if ((rd_T65 l0 x8_1).f0) > 2 then (if ((rd_T65 l0 x8_1).f1) = 0 then (foretellref_ExprChecked.l0 k1 l0 a1 (wrap64 (x8_1 + 1))) else (some (false,2))) else (foretellref_ExprChecked.l0 k1 l0 a1 (wrap64 (x8_1 + 1)))) else (some (false,2))) = some (r1,r2):=H
          have A40:=zA A400
          clear A400
          by_cases c41:t344 = true
          ·subst c41
           have H1:(if ((rd_T65 l0 x8_1).f0) > 2 then (if ((rd_T65 l0 x8_1).f1) = 0 then (foretellref_ExprChecked.l0 k1 l0 a1 (wrap64 (x8_1 + 1))) else (some (false,2))) else (foretellref_ExprChecked.l0 k1 l0 a1 (wrap64 (x8_1 + 1)))) = some (r1,r2):=by rw [if_pos rfl] at H;exact H
           clear H
           have H:=H1
           clear H1
           by_cases c42:((rd_T65 l0 x8_1).f0) > 2
           ·rw [if_pos c42] at H
            have c42b0:decide (2 < ((rd_T65 l0 x8_1).f0)) = true:=zQ c42
            clear c42
            by_cases c43:((rd_T65 l0 x8_1).f1) = 0
            ·rw [if_pos c43] at H
             have c43b0:(((rd_T65 l0 x8_1).f1) == 0) = true:=beq_iff_eq.mpr c43
             have c43b1:(((rd_T65 l0 x8_1).f1) != 0) = false:=bne_eq_false_iff_eq.mpr c43
             clear c43
             have H':=zA H
             clear H
             have p340:0 ≤ (x8_1:Int):=qd
             have q340:x8_1 < (l0.length:Int):=qd
             obtain ⟨ad340,e340,hx340_0,hx340_1⟩:=at_T65 HR0.out x8_1 p340 q340
             cases e340
             replace hx340_0:=qy HB hx340_0
             replace hx340_1:=qy HB hx340_1
             replace p340:=eq_true p340
             replace q340:=eq_true q340
             go_wp2_with (first|((with_reducible refine zV (N:=9) rfl ?_);refine bq 9 (cs:=#[.int .i64 0,.int .i64 0]) (t:=65) ?_;intro gb341 hg w44 hbox hb;have BK341:=zA (hbox);have GW341:=zA (qg hg);have GE341:=zA (qg hg);replace HB:=zA (zH qb hb);clear hb hbox hg;have hcz45_0:=qx BK341 0;have hcz45_1:=qx BK341 1;have hfz45_0:=zJ BK341.out 0;have hfz45_1:=zJ BK341.out 1)|(go_at_call 50;(with_reducible refine (foretellref_In.calls ((rd_T65 l0 x8_1).f1) 0 (wrap64 (a1 - 1)) true _ A40.out).mono ?_);rintro e w' ⟨rfl,⟨nd,rfl⟩⟩))
             go_roundg k1
             case measure=>have:=HK1.out;omega
             case rel=>exact ⟨(wrap64 (x8_1 + 1)),qr,H',⟨qo HK1⟩,⟨qb⟩⟩
            ·rw [if_neg c43] at H
             have c43b0:(((rd_T65 l0 x8_1).f1) == 0) = false:=beq_eq_false_iff_ne.mpr c43
             have c43b1:(((rd_T65 l0 x8_1).f1) != 0) = true:=bne_iff_ne.mpr c43
             simp only [Option.some.injEq,Prod.mk.injEq] at H
             obtain ⟨rfl,rfl⟩:=H
             have p340:0 ≤ (x8_1:Int):=qd
             have q340:x8_1 < (l0.length:Int):=qd
             obtain ⟨ad340,e340,hx340_0,hx340_1⟩:=at_T65 HR0.out x8_1 p340 q340
             cases e340
             replace hx340_0:=qy HB hx340_0
             replace hx340_1:=qy HB hx340_1
             replace p340:=eq_true p340
             replace q340:=eq_true q340
             go_wp2_with (first|((with_reducible refine zV (N:=9) rfl ?_);refine bq 9 (cs:=#[.int .i64 0,.int .i64 0]) (t:=65) ?_;intro gb341 hg w46 hbox hb;have BK341:=zA (hbox);have GW341:=zA (qg hg);have GE341:=zA (qg hg);replace HB:=zA (zH qb hb);clear hb hbox hg;have hcz47_0:=qx BK341 0;have hcz47_1:=qx BK341 1;have hfz47_0:=zJ BK341.out 0;have hfz47_1:=zJ BK341.out 1)|(go_at_call 50;(with_reducible refine (foretellref_In.calls ((rd_T65 l0 x8_1).f1) 0 (wrap64 (a1 - 1)) true _ A40.out).mono ?_);rintro e w' ⟨rfl,⟨nd,rfl⟩⟩))
             go_ret2
             exact ⟨qe,qb⟩
           ·rw [if_neg c42] at H
            have c42b0:decide (2 < ((rd_T65 l0 x8_1).f0)) = false:=zR c42
            clear c42
            have H':=zA H
            clear H
            have p340:0 ≤ (x8_1:Int):=qd
            have q340:x8_1 < (l0.length:Int):=qd
            obtain ⟨ad340,e340,hx340_0,hx340_1⟩:=at_T65 HR0.out x8_1 p340 q340
            cases e340
            replace hx340_0:=qy HB hx340_0
            replace hx340_1:=qy HB hx340_1
            replace p340:=eq_true p340
            replace q340:=eq_true q340
            go_wp2_with (first|((with_reducible refine zV (N:=9) rfl ?_);refine bq 9 (cs:=#[.int .i64 0,.int .i64 0]) (t:=65) ?_;intro gb341 hg w48 hbox hb;have BK341:=zA (hbox);have GW341:=zA (qg hg);have GE341:=zA (qg hg);replace HB:=zA (zH qb hb);clear hb hbox hg;have hcz49_0:=qx BK341 0;have hcz49_1:=qx BK341 1;have hfz49_0:=zJ BK341.out 0;have hfz49_1:=zJ BK341.out 1)|(go_at_call 50;(with_reducible refine (foretellref_In.calls ((rd_T65 l0 x8_1).f1) 0 (wrap64 (a1 - 1)) true _ A40.out).mono ?_);rintro e w' ⟨rfl,⟨nd,rfl⟩⟩))
            go_roundg k1
            case measure=>have:=HK1.out;omega
            case rel=>exact ⟨(wrap64 (x8_1 + 1)),qr,H',⟨qo HK1⟩,⟨qb⟩⟩
          ·replace c41:=Bool.eq_false_iff.mpr c41
           subst c41
           have H1:(some (false,2)) = some (r1,r2):=by rw [if_neg (show ¬ (false = true) by decide)] at H;exact H
           clear H
           have H:=H1
           clear H1
           simp only [Option.some.injEq,Prod.mk.injEq] at H
           obtain ⟨rfl,rfl⟩:=H
           have p340:0 ≤ (x8_1:Int):=qd
           have q340:x8_1 < (l0.length:Int):=qd
           obtain ⟨ad340,e340,hx340_0,hx340_1⟩:=at_T65 HR0.out x8_1 p340 q340
           cases e340
           replace hx340_0:=qy HB hx340_0
           replace hx340_1:=qy HB hx340_1
           replace p340:=eq_true p340
           replace q340:=eq_true q340
           go_wp2_with (first|((with_reducible refine zV (N:=9) rfl ?_);refine bq 9 (cs:=#[.int .i64 0,.int .i64 0]) (t:=65) ?_;intro gb341 hg w50 hbox hb;have BK341:=zA (hbox);have GW341:=zA (qg hg);have GE341:=zA (qg hg);replace HB:=zA (zH qb hb);clear hb hbox hg;have hcz51_0:=qx BK341 0;have hcz51_1:=qx BK341 1;have hfz51_0:=zJ BK341.out 0;have hfz51_1:=zJ BK341.out 1)|(go_at_call 50;(with_reducible refine (foretellref_In.calls ((rd_T65 l0 x8_1).f1) 0 (wrap64 (a1 - 1)) false _ A40.out).mono ?_);rintro e w' ⟨rfl,⟨nd,rfl⟩⟩))
           go_ret2
           exact ⟨qe,qb⟩
         ·rw [if_neg c39] at H
          have c39b0:(((rd_T65 l0 x8_1).f0) == 2) = false:=beq_eq_false_iff_ne.mpr c39
          have c39b1:(((rd_T65 l0 x8_1).f0) != 2) = true:=bne_iff_ne.mpr c39
          by_cases c52:((rd_T65 l0 x8_1).f0) > 2
          ·rw [if_pos c52] at H
           have c52b0:decide (2 < ((rd_T65 l0 x8_1).f0)) = true:=zQ c52
           clear c52
           by_cases c53:((rd_T65 l0 x8_1).f1) = 0
           ·rw [if_pos c53] at H
            have c53b0:(((rd_T65 l0 x8_1).f1) == 0) = true:=beq_iff_eq.mpr c53
            have c53b1:(((rd_T65 l0 x8_1).f1) != 0) = false:=bne_eq_false_iff_eq.mpr c53
            clear c53
            have H':=zA H
            clear H
            have p340:0 ≤ (x8_1:Int):=qd
            have q340:x8_1 < (l0.length:Int):=qd
            obtain ⟨ad340,e340,hx340_0,hx340_1⟩:=at_T65 HR0.out x8_1 p340 q340
            cases e340
            replace hx340_0:=qy HB hx340_0
            replace hx340_1:=qy HB hx340_1
            replace p340:=eq_true p340
            replace q340:=eq_true q340
            go_wp2_with (first|((with_reducible refine zV (N:=9) rfl ?_);refine bq 9 (cs:=#[.int .i64 0,.int .i64 0]) (t:=65) ?_;intro gb341 hg w54 hbox hb;have BK341:=zA (hbox);have GW341:=zA (qg hg);have GE341:=zA (qg hg);replace HB:=zA (zH qb hb);clear hb hbox hg;have hcz55_0:=qx BK341 0;have hcz55_1:=qx BK341 1;have hfz55_0:=zJ BK341.out 0;have hfz55_1:=zJ BK341.out 1))
            go_roundg k1
            case measure=>have:=HK1.out;omega
            case rel=>exact ⟨(wrap64 (x8_1 + 1)),qr,H',⟨qo HK1⟩,⟨qb⟩⟩
           ·rw [if_neg c53] at H
            have c53b0:(((rd_T65 l0 x8_1).f1) == 0) = false:=beq_eq_false_iff_ne.mpr c53
            have c53b1:(((rd_T65 l0 x8_1).f1) != 0) = true:=bne_iff_ne.mpr c53
            simp only [Option.some.injEq,Prod.mk.injEq] at H
            obtain ⟨rfl,rfl⟩:=H
            have p340:0 ≤ (x8_1:Int):=qd
            have q340:x8_1 < (l0.length:Int):=qd
            obtain ⟨ad340,e340,hx340_0,hx340_1⟩:=at_T65 HR0.out x8_1 p340 q340
            cases e340
            replace hx340_0:=qy HB hx340_0
            replace hx340_1:=qy HB hx340_1
            replace p340:=eq_true p340
            replace q340:=eq_true q340
            go_wp2_with (first|((with_reducible refine zV (N:=9) rfl ?_);refine bq 9 (cs:=#[.int .i64 0,.int .i64 0]) (t:=65) ?_;intro gb341 hg w56 hbox hb;have BK341:=zA (hbox);have GW341:=zA (qg hg);have GE341:=zA (qg hg);replace HB:=zA (zH qb hb);clear hb hbox hg;have hcz57_0:=qx BK341 0;have hcz57_1:=qx BK341 1;have hfz57_0:=zJ BK341.out 0;have hfz57_1:=zJ BK341.out 1))
            go_ret2
            exact ⟨qe,qb⟩
          ·rw [if_neg c52] at H
           have c52b0:decide (2 < ((rd_T65 l0 x8_1).f0)) = false:=zR c52
           clear c52
           have H':=zA H
           clear H
           have p340:0 ≤ (x8_1:Int):=qd
           have q340:x8_1 < (l0.length:Int):=qd
           obtain ⟨ad340,e340,hx340_0,hx340_1⟩:=at_T65 HR0.out x8_1 p340 q340
           cases e340
           replace hx340_0:=qy HB hx340_0
           replace hx340_1:=qy HB hx340_1
           replace p340:=eq_true p340
           replace q340:=eq_true q340
           go_wp2_with (first|((with_reducible refine zV (N:=9) rfl ?_);refine bq 9 (cs:=#[.int .i64 0,.int .i64 0]) (t:=65) ?_;intro gb341 hg w58 hbox hb;have BK341:=zA (hbox);have GW341:=zA (qg hg);have GE341:=zA (qg hg);replace HB:=zA (zH qb hb);clear hb hbox hg;have hcz59_0:=qx BK341 0;have hcz59_1:=qx BK341 1;have hfz59_0:=zJ BK341.out 0;have hfz59_1:=zJ BK341.out 1))
           go_roundg k1
           case measure=>have:=HK1.out;omega
           case rel=>exact ⟨(wrap64 (x8_1 + 1)),qr,H',⟨qo HK1⟩,⟨qb⟩⟩
      ·exact absurd H (by simp)
     ·replace H:=zb.mp H
      obtain ⟨t345,A600,H⟩:=H
      replace H:(if t345 = 0 then (if 0 < (l0.length:Int) then ((foretellref_makesTruth.f ((rd_T65 l0 0).f0)).bind fun t347=>(some (t347,0))) else (none)) else (some (false,5))) = some (r1,r2):=H
      have A60:=zA A600
      clear A600
      by_cases c61:t345 = 0
      ·rw [if_pos c61] at H
       have c61b0:(t345 == 0) = true:=beq_iff_eq.mpr c61
       have c61b1:(t345 != 0) = false:=bne_eq_false_iff_eq.mpr c61
       clear c61
       by_cases c62:0 < (l0.length:Int)
       ·rw [if_pos c62] at H
        have c62b0:decide (0 < (l0.length:Int)) = true:=zQ c62
        have c62b1:decide (0 < l0.length) = true:=zQ (by omega)
        clear c62
        replace H:=zb.mp H
        obtain ⟨t347,A630,H⟩:=H
        replace H:(some (t347,0)) = some (r1,r2):=H
        have A63:=zA A630
        clear A630
        simp only [Option.some.injEq,Prod.mk.injEq] at H
        obtain ⟨rfl,rfl⟩:=H
        go_wp2_with (first|((with_reducible refine zU (f:=106) rfl ?_);refine gL (some 67) Tryd.func106 #[.slice A0 l0.length c0] ?_;(with_reducible refine (foretellref_typed.calls k1 _ _ l0 t345 _ (qc HR0) HC0.out A60.out).mono ?_);rintro e w64 ⟨rfl,hb⟩;refine ⟨_,rfl,?_⟩;replace HB:=zA (zH qb hb);clear hb;have p346:0 ≤ (0:Int):=(by omega);have q346:0 < (l0.length:Int):=qd;obtain ⟨ad346,e346,hx346_0,hx346_1⟩:=at_T65 HR0.out 0 p346 q346;cases e346;have qi346:(0 < l0.length) = True:=eq_true (by omega);(try rw [show ((0:Int)).toNat = 0 from rfl] at hx346_0);(try rw [show 0 * 2 = 0 from rfl] at hx346_0);(try rw [Addr.add_zero'] at hx346_0);(try rw [show ((0:Int)).toNat = 0 from rfl] at hx346_1);(try rw [show 0 * 2 = 0 from rfl] at hx346_1);(try rw [Addr.add_zero'] at hx346_1);replace hx346_0:=qy HB hx346_0;replace hx346_1:=qy HB hx346_1;replace p346:=eq_true p346;replace q346:=eq_true q346)|((with_reducible refine zU (f:=107) rfl ?_);refine gL (some 73) Tryd.func107 #[.int .i64 ((rd_T65 l0 0).f0)] ?_;(with_reducible refine (foretellref_makesTruth.calls ((rd_T65 l0 0).f0) t347 _ A63.out).mono ?_);rintro e w' ⟨rfl,⟨nd,rfl⟩⟩;refine ⟨_,rfl,?_⟩))
        go_ret2
        exact ⟨qe,qb⟩
       ·rw [if_neg c62] at H
        exact absurd H (by simp)
      ·rw [if_neg c61] at H
       have c61b0:(t345 == 0) = false:=beq_eq_false_iff_ne.mpr c61
       have c61b1:(t345 != 0) = true:=bne_iff_ne.mpr c61
       simp only [Option.some.injEq,Prod.mk.injEq] at H
       obtain ⟨rfl,rfl⟩:=H
       go_wp2_with (first|((with_reducible refine zU (f:=106) rfl ?_);refine gL (some 67) Tryd.func106 #[.slice A0 l0.length c0] ?_;(with_reducible refine (foretellref_typed.calls k1 _ _ l0 t345 _ (qc HR0) HC0.out A60.out).mono ?_);rintro e w65 ⟨rfl,hb⟩;refine ⟨_,rfl,?_⟩;replace HB:=zA (zH qb hb);clear hb))
       go_ret2
       exact ⟨qe,qb⟩
  ·rw [if_neg c6] at H
   have c6b0:(t337 == 0) = false:=beq_eq_false_iff_ne.mpr c6
   have c6b1:(t337 != 0) = true:=bne_iff_ne.mpr c6
   simp only [Option.some.injEq,Prod.mk.injEq] at H
   obtain ⟨rfl,rfl⟩:=H
   go_enter Tryd.func89,Tryd.ntmps89
   go_wp2_with (first|((with_reducible refine zU (f:=50) rfl ?_);refine gL (some 11) Tryd.func50 #[.int .i64 a1,.int .i64 0,.int .i64 6] ?_;(with_reducible refine (foretellref_In.calls a1 0 6 true _ A3.out).mono ?_);rintro e w' ⟨rfl,⟨nd,rfl⟩⟩;refine ⟨_,rfl,?_⟩)|((with_reducible refine zU (f:=74) rfl ?_);refine gL (some 15) Tryd.func74 #[.slice A0 l0.length c0] ?_;(with_reducible refine (foretellref_EndsOf.calls k _ _ l0 t336 t337 _ (qu HR0.out) HC0.out A5.out).mono ?_);rintro e w66 ⟨v338,rfl,ho0,hb⟩;refine ⟨_,rfl,?_⟩;have HO339:=zA (Kd.R_lower ho0 qs);replace HB:=zA (zH qb hb);clear ho0 hb))
   go_ret2
   exact ⟨qe,qb⟩
 ·replace c4:=Bool.eq_false_iff.mpr c4
  subst c4
  have H1:(some (false,2)) = some (r1,r2):=by rw [if_neg (show ¬ (false = true) by decide)] at H;exact H
  clear H
  have H:=H1
  clear H1
  simp only [Option.some.injEq,Prod.mk.injEq] at H
  obtain ⟨rfl,rfl⟩:=H
  go_enter Tryd.func89,Tryd.ntmps89
  go_wp2_with (first|((with_reducible refine zU (f:=50) rfl ?_);refine gL (some 11) Tryd.func50 #[.int .i64 a1,.int .i64 0,.int .i64 6] ?_;(with_reducible refine (foretellref_In.calls a1 0 6 false _ A3.out).mono ?_);rintro e w' ⟨rfl,⟨nd,rfl⟩⟩;refine ⟨_,rfl,?_⟩))
  go_ret2
  exact ⟨qe,qb⟩
end Go.Proofs.YthffpjkkmkjplaaDoor.S
namespace Go.Proofs.YthffpjkkmkjplaaDoor.S
open Go.Proofs.YthffpjkkmkjplaaDoor.Al
open Go.Proofs.YthffpjkkmkjplaaDoorW.PrintWords
open Go.Proofs.YthffpjkkmkjplaaDoor.Sq
open Go.RowKit Go.Proofs.YthffpjkkmkjplaaDoorW.PrintWords Go.Proofs.YthffpjkkmkjplaaDoorW.PrintLast Go.Proofs.YthffpjkkmkjplaaDoorW.PrintMore
attribute [local go_sem] max2_int min2_int max_two min_two max_three min_three max_four min_four
set_option linter.unusedVariables false
set_option linter.unusedSimpArgs false
def foretelllaw_ops.f (l0:List (S65)):Option ((List (S65))):=if ([]:List (S65)).length + l0.length < 8796093022208 then (some (([]:List (S65)) ++ l0)) else (none)
set_option maxHeartbeats 8000000 in
set_option maxRecDepth 100000 in
theorem foretelllaw_ops.calls (A0:Option Addr) (c0:Nat) (l0:List (S65)) (r:List (S65)) (w:World) (hr0:Kd.C k65 w A0 l0.length l0) (hc0:l0.length ≤ c0) (h:foretelllaw_ops.f l0 = some r) :
  Calls Tryd.prog 9 #[.slice A0 l0.length c0] w fun e w'=>∃ v0_:Value,e = .returned (v0_)∧Kd.R k65 65 w' w.heap.size (fun _=>True) v0_ r∧Below w.heap.size w w':=by
 have HR0:=zA hr0
 have HC0:=zA hc0
 clear hr0 hc0
 have HB:=zA (Below.refl w.heap.size w)
 have H:(if ([]:List (S65)).length + l0.length < 8796093022208 then (some (([]:List (S65)) ++ l0)) else (none)) = some r:=h
 clear h
 by_cases c2:([]:List (S65)).length + l0.length < 8796093022208
 ·rw [if_pos c2] at H
  have LMc2:=zA c2
  clear c2
  obtain ⟨y223,hy223⟩:∃ y_:List (S65),y_ = (([]:List (S65)) ++ l0):=⟨_,rfl⟩
  replace H:(some y223) = some r:=by first|(rw [hy223];with_reducible exact H)|(have H2_:=(Option.bind_some _ _).symm.trans H;rw [hy223];with_reducible exact H2_)|(have H2_:=(Option.bind_some _ _).symm.trans H;with_reducible exact H2_)|with_reducible exact H|(rw [hy223];exact H)|exact H
  have Ny223:=zA hy223
  clear hy223
  obtain rfl:=Option.some.inj H
  go_enter Tryd.func9,Tryd.ntmps9
  go_wp2_with (first|((with_reducible refine gate_builtin (b:=.append) (xs:=#[.const (.slice none 0 0),.tmp 3]) rfl ?_);at_builtin;refine Kd.R_append_rows k65 (w0:=w) w.heap.size rfl (.const (.slice none 0 0)) (.tmp 3) 22 65 (.agg #[(.int .i64 0),(.int .i64 0)]) 16 rfl Tryd.underlying22 info65 rfl (by decide) (by omega) (.slice none 0 0) ([]:List (S65)) l0 _ _ _ (fun _=>True) (fun _=>False) rfl rfl ((Kd.R_nil _ _ _ _ (fun _=>True))) (qu HR0.out) (fun _ _ h=>h) (fun _ h=>h.elim) (fun _ _=>trivial) qb qs (qo LMc2) ?_;intro v224 w3 ho hb hg hat;rw [← Ny223.out] at ho;replace HB:=zA (hb);have HO225:=zA (ho);clear ho hb hg hat))
  go_ret
  exact ⟨_,qe,qR HO225,qb⟩
 ·rw [if_neg c2] at H
  exact absurd H (by simp)
end Go.Proofs.YthffpjkkmkjplaaDoor.S
