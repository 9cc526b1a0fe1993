import Derived.Test.YthffpjkkmkjplaaDoorKProductBeginsG9
import Derived.Test.YthffpjkkmkjplaaDoorKProductBeginsG21
import Derived.Test.YthffpjkkmkjplaaDoorKProductBeginsG18
import Derived.Test.YthffpjkkmkjplaaDoorKProductBeginsG15
import Derived.Test.YthffpjkkmkjplaaDoorKProductBeginsG16
namespace Go.Proofs.YthffpjkkmkjplaaDoor.S
open Go.Proofs.YthffpjkkmkjplaaDoor.Al
open Option renaming bind_eq_some_iff → zb
open List renaming setIfInBounds_toArray → zX, set_cons_zero → zY, set_cons_succ → zZ
open Go.Proofs.YthffpjkkmkjplaaDoorW.PrintWords renaming below_drew1 → zE, below_step → zH, blk_cell → zI, blk_frozen → zJ, blk_drew → zM, gate_callee → zU, gate_dst → zV
open Go.Proofs.YthffpjkkmkjplaaDoor.Sq
open Go.RowKit Go.Proofs.YthffpjkkmkjplaaDoorW.PrintWords Go.Proofs.YthffpjkkmkjplaaDoorW.PrintLast Go.Proofs.YthffpjkkmkjplaaDoorW.PrintMore
attribute [local go_sem] max2_int min2_int max_two min_two max_three min_three max_four min_four
set_option linter.unusedVariables false
set_option linter.unusedSimpArgs false
mutual
def foretellref_PropsFault.j0:Nat → List (List (S65)) → Int → Bool → List (S86) → List (S93) → Option (Int)
 | 0,_,_,_,_,_=>none
 | k + 1,x1,x5,x15,x362000,x362001=>if x15 = true then (foretellref_PropsFault.j1 k x1 1 x362000 x362001) else (foretellref_PropsFault.j1 k x1 x5 x362000 x362001)
def foretellref_PropsFault.j1:Nat → List (List (S65)) → Int → List (S86) → List (S93) → Option (Int)
 | 0,_,_,_,_=>none
 | k + 1,x1,x5,x362000,x362001=>foretellref_PropsFault.l0 k x1 x5 0 x362000 x362001
def foretellref_PropsFault.l0:Nat → List (List (S65)) → Int → Int → List (S86) → List (S93) → Option (Int)
 | 0,_,_,_,_,_=>none
 | k + 1,x1,x5,x6,x362000,x362001=>if x6 < (x1.length:Int) then (if x5 = 0 then (if 0 ≤ x6 then ((foretellref_kindFault.f k (rd_L4 x1 x6) (x362000.length:Int) true).bind fun t364=>(foretellref_PropsFault.l0 k x1 t364 (wrap64 (x6 + 1)) x362000 x362001)) else (none)) else (some x5)) else (some x5)
end
def foretellref_PropsFault.f (k:Nat) (l0_0:List (S86)) (l0_1:List (S93)) (l1:List (List (S65))):Option (Int):=(foretellref_ModelFault.f k l0_0 l0_1).bind fun t362=>(if t362 = 0 then (foretellref_PropsFault.j0 k l1 t362 (decide ((l1.length:Int) > 6)) l0_0 l0_1) else (foretellref_PropsFault.j0 k l1 t362 false l0_0 l0_1))
theorem foretellref_PropsFault.mono_l:∀ k,(∀ y0 y1 y2 y3 y4,LeO (foretellref_PropsFault.j0 k y0 y1 y2 y3 y4) (foretellref_PropsFault.j0 (k + 1) y0 y1 y2 y3 y4))∧(∀ y0 y1 y2 y3,LeO (foretellref_PropsFault.j1 k y0 y1 y2 y3) (foretellref_PropsFault.j1 (k + 1) y0 y1 y2 y3))∧(∀ y0 y1 y2 y3 y4,LeO (foretellref_PropsFault.l0 k y0 y1 y2 y3 y4) (foretellref_PropsFault.l0 (k + 1) y0 y1 y2 y3 y4))
 | 0=>⟨fun _ _ _ _ _ r h=>by simp [foretellref_PropsFault.j0] at h,fun _ _ _ _ r h=>by simp [foretellref_PropsFault.j1] at h,fun _ _ _ _ _ r h=>by simp [foretellref_PropsFault.l0] at h⟩
 | k + 1=>by
  obtain ⟨ih0,ih1,ih2⟩:=foretellref_PropsFault.mono_l k
  refine ⟨?_,?_,?_⟩
  ·intro y0 y1 y2 y3 y4
   unfold foretellref_PropsFault.j0
   exact qM (And.intro @foretellref_ModelFault.mono @foretellref_kindFault.mono)
  ·intro y0 y1 y2 y3
   unfold foretellref_PropsFault.j1
   exact qM (And.intro @foretellref_ModelFault.mono @foretellref_kindFault.mono)
  ·intro y0 y1 y2 y3 y4
   unfold foretellref_PropsFault.l0
   exact qM (And.intro @foretellref_ModelFault.mono @foretellref_kindFault.mono)
theorem foretellref_PropsFault.mono:∀ a0 a1 a2 k,LeO (foretellref_PropsFault.f k a0 a1 a2) (foretellref_PropsFault.f (k + 1) a0 a1 a2):=by
 intro a0 a1 a2 k
 obtain ⟨ih0,ih1,ih2⟩:=foretellref_PropsFault.mono_l k
 unfold foretellref_PropsFault.f
 exact qM (And.intro @foretellref_ModelFault.mono @foretellref_kindFault.mono)
def foretellref_PropsFault.T7:Bool × List (List Nat × List Nat):=(true,[([],[]),([],[]),([0,1],[0,1]),([2],[2]),([],[]),([4],[4]),([5],[5]),([3,6],[3,6]),([7,7,0,1,2,3,4,5,6,7],[7])])
def foretellref_PropsFault.B7:List Nat:=[0,0,3,7,0,16,48,127,255]
theorem foretellref_PropsFault.tab7:rtab .any (opsOf Tryd.f57 7) = foretellref_PropsFault.T7:=by kernel_rfl
theorem foretellref_PropsFault.bits7:waitsOk foretellref_PropsFault.T7.2 foretellref_PropsFault.B7 = true:=by kernel_rfl
set_option maxHeartbeats 8000000 in
set_option maxRecDepth 100000 in
theorem foretellref_PropsFault.calls (k:Nat) (A0_0:Option Addr) (c0_0:Nat) (l0_0:List (S86)) (A0_1:Option Addr) (c0_1:Nat) (l0_1:List (S93)) (A1:Option Addr) (c1:Nat) (l1:List (List (S65))) (r:Int) (w:World) (hr0_0:Kd.C k86 w A0_0 l0_0.length l0_0) (hc0_0:l0_0.length ≤ c0_0) (hr0_1:Kd.C k93 w A0_1 l0_1.length l0_1) (hc0_1:l0_1.length ≤ c0_1) (hr1:Kd.C (Kd.slice 65 k65) w A1 l1.length l1) (hc1:l1.length ≤ c1) (h:foretellref_PropsFault.f k l0_0 l0_1 l1 = some r) :
  Calls Tryd.prog 57 #[.agg #[.slice A0_0 l0_0.length c0_0,.slice A0_1 l0_1.length c0_1],.slice A1 l1.length c1] w fun e w'=>e = .returned (.int .i64 r)∧Below w.heap.size w w':=by
 have hu44:=Tryd.underlying44
 have HR0_0:=zA hr0_0
 have HC0_0:=zA hc0_0
 clear hr0_0 hc0_0
 have HR0_1:=zA hr0_1
 have HC0_1:=zA hc0_1
 clear hr0_1 hc0_1
 have HR1:=zA hr1
 have HC1:=zA hc1
 clear hr1 hc1
 have HB:=zA (Below.refl w.heap.size w)
 have H:((foretellref_ModelFault.f k l0_0 l0_1).bind fun t362=>(if t362 = 0 then (foretellref_PropsFault.j0 k l1 t362 (decide ((l1.length:Int) > 6)) l0_0 l0_1) else (foretellref_PropsFault.j0 k l1 t362 false l0_0 l0_1))) = some r:=h
 clear h
 replace H:=zb.mp H
 obtain ⟨t362,A30,H⟩:=H
 replace H:(if t362 = 0 then (foretellref_PropsFault.j0 k l1 t362 (decide ((l1.length:Int) > 6)) l0_0 l0_1) else (foretellref_PropsFault.j0 k l1 t362 false l0_0 l0_1)) = some r:=H
 have A3:=zA A30
 clear A30
 have HC4:=zA H
 clear H
 go_enter Tryd.func57,Tryd.ntmps57
 go_upto_region 2 with (first|((with_reducible refine zV (N:=2) rfl ?_);(try (refine gate_guard (by rfl) ?_;dsimp only));refine bq 2 (cs:=#[.slice A0_0 l0_0.length c0_0,.slice A0_1 l0_1.length c0_1]) (t:=44) ?_;intro gb361 hg w5 hbox hb;have BK361:=zA (hbox);have GW361:=zA (qg hg);have GE361:=zA (qg hg);replace HB:=zA (zH qb hb);clear hb hbox hg;have hcz6_0:=qx BK361 0;have hcz6_1:=qx BK361 1;have hfz6_0:=zJ BK361.out 0;have hfz6_1:=zJ BK361.out 1)|((with_reducible refine zU (f:=85) rfl ?_);refine gL (some 8) Tryd.func85 #[.agg #[.slice A0_0 l0_0.length c0_0,.slice A0_1 l0_1.length c0_1]] ?_;(with_reducible refine (foretellref_ModelFault.calls k _ _ l0_0 _ _ l0_1 t362 _ (qc HR0_0) HC0_0.out (qc HR0_1) HC0_1.out A3.out).mono ?_);rintro e w7 ⟨rfl,hb⟩;refine ⟨_,rfl,?_⟩;replace BK361:=qK BK361 hb;replace HB:=zA (zH qb hb);clear hb))
 (try simp only [Act.put,zX,zY,zZ])
 go_cut [15] (fun v15 wc=>∃ (kq:Nat) (x15_3:Bool),v15 = .bool x15_3∧Aside0 (foretellref_PropsFault.j0 kq l1 t362 x15_3 l0_0 l0_1 = some r)∧Aside0 (kq ≤ k)∧Aside0 (wc.heap[gb361]? = some (.cells #[(.slice A0_0 l0_0.length c0_0),(.slice A0_1 l0_1.length c0_1)] 44 (0,0)))∧Aside0 (Below w.heap.size w wc))
 case first =>
  have H:=HC4.out
  clear HC4
  by_cases c8:t362 = 0
  ·rw [if_pos c8] at H
   have c8b0:(t362 == 0) = true:=beq_iff_eq.mpr c8
   have c8b1:(t362 != 0) = false:=bne_eq_false_iff_eq.mpr c8
   clear c8
   (first|rw [c8b0]|(simp only [i64_w,i32_w];rw [c8b0])|skip)
   have H':=zA H
   clear H
   go_wp2
   go_meet
   case rel=>exact ⟨_,(decide ((l1.length:Int) > 6)),qr,H',⟨qm⟩,⟨qk BK361⟩,⟨qb⟩⟩
  ·rw [if_neg c8] at H
   have c8b0:(t362 == 0) = false:=beq_eq_false_iff_ne.mpr c8
   have c8b1:(t362 != 0) = true:=bne_iff_ne.mpr c8
   (first|rw [c8b0]|(simp only [i64_w,i32_w];rw [c8b0])|skip)
   have H':=zA H
   clear H
   go_wp2
   go_meet
   case rel=>exact ⟨_,(false),qr,H',⟨qm⟩,⟨qk BK361⟩,⟨qb⟩⟩
 case rest =>
  clear HC4
  try clear c1
  try clear p2
  try clear c5
  try clear c8
  try clear c8b0
  try clear c8b1
  try clear hcz6_0
  try clear hcz6_1
  try clear hfz6_0
  try clear hfz6_1
  obtain ⟨kq,x15_3,rfl,HA,HJ3,BK361,HB⟩:=hcut
  cases kq with
  | zero=>exact absurd HA.out (by simp [foretellref_PropsFault.j0])
  | succ kj3 =>
   have H:=HA.out
   clear HA
   simp only [foretellref_PropsFault.j0] at H
   have HC9:=zA H
   clear H
   go_upto_if 15 with (fail)
   go_cut [5] (fun v5 wc=>∃ (kq:Nat) (x5_8:Int),v5 = .int .i64 x5_8∧Aside0 (foretellref_PropsFault.j1 kq l1 x5_8 l0_0 l0_1 = some r)∧Aside0 (kq ≤ kj3)∧Aside0 (wc.heap[gb361]? = some (.cells #[(.slice A0_0 l0_0.length c0_0),(.slice A0_1 l0_1.length c0_1)] 44 (0,0)))∧Aside0 (Below w.heap.size w wc))
   case first =>
    have H:=HC9.out
    clear HC9
    by_cases c10:x15_3 = true
    ·subst c10
     have H1:(foretellref_PropsFault.j1 kj3 l1 1 l0_0 l0_1) = some r:=by rw [if_pos rfl] at H;exact H
     clear H
     have H:=H1
     clear H1
     have H':=zA H
     clear H
     go_wp2
     go_meet
     case rel=>exact ⟨_,(1),qr,H',⟨qo HJ3⟩,⟨qk BK361⟩,⟨qb⟩⟩
    ·replace c10:=Bool.eq_false_iff.mpr c10
     subst c10
     have H1:(foretellref_PropsFault.j1 kj3 l1 t362 l0_0 l0_1) = some r:=by rw [if_neg (show ¬ (false = true) by decide)] at H;exact H
     clear H
     have H:=H1
     clear H1
     have H':=zA H
     clear H
     go_wp2
     go_meet
     case rel=>exact ⟨_,(t362),qr,H',⟨qo HJ3⟩,⟨qk BK361⟩,⟨qb⟩⟩
   case rest =>
    clear HC9
    try clear c1
    try clear p2
    try clear c5
    try clear c8
    try clear c8b0
    try clear c8b1
    try clear c10
    try clear hcz6_0
    try clear hcz6_1
    try clear hfz6_0
    try clear hfz6_1
    try clear p2
    obtain ⟨kq,x5_8,rfl,HA,HJ8,BK361,HB⟩:=hcut
    cases kq with
    | zero=>exact absurd HA.out (by simp [foretellref_PropsFault.j1])
    | succ kj8 =>
     have H:=HA.out
     clear HA
     simp only [foretellref_PropsFault.j1] at H
     have H':=zA H
     clear H
     go_wp2
     go_loopg [5,6] kj8 (fun kq v5 v6 w'=>∃ (x5_3:Int) (x6_3:Int),v5 = .int .i64 x5_3∧v6 = .int .i64 x6_3∧Aside0 (foretellref_PropsFault.l0 kq l1 x5_3 x6_3 l0_0 l0_1 = some r)∧Aside0 (kq ≤ kj8)∧Aside0 (w'.heap[gb361]? = some (.cells #[(.slice A0_0 l0_0.length c0_0),(.slice A0_1 l0_1.length c0_1)] 44 (0,0)))∧Aside0 (Below w.heap.size w w'))
     case atStart=>exact ⟨(x5_8),(0),qr,qr,H',⟨Nat.le_refl _⟩,⟨qk BK361⟩,⟨qb⟩⟩
     case round =>
      clear H'
      try clear c1
      try clear p2
      try clear c5
      try clear c8
      try clear c8b0
      try clear c8b1
      try clear c10
      try clear hcz6_0
      try clear hcz6_1
      try clear hfz6_0
      try clear hfz6_1
      try clear p2
      obtain ⟨x5_3,x6_3,rfl,rfl,HA,HK3,BK361,HB⟩:=hrel
      cases gk with
      | zero=>exact absurd HA.out (by simp [foretellref_PropsFault.l0])
      | succ k3 =>
       have H:=HA.out
       clear HA
       simp only [foretellref_PropsFault.l0] at H
       rcases qj H with ⟨c11b0,H⟩|⟨c11b0,H⟩
       ·by_cases c12:x5_3 = 0
        ·rw [if_pos c12] at H
         have c12b0:(x5_3 == 0) = true:=beq_iff_eq.mpr c12
         have c12b1:(x5_3 != 0) = false:=bne_eq_false_iff_eq.mpr c12
         clear c12
         rcases qj H with ⟨c13b0,H⟩|⟨c13,H⟩
         ·replace H:=zb.mp H
          obtain ⟨t364,A140,H⟩:=H
          replace H:(foretellref_PropsFault.l0 k3 l1 t364 (wrap64 (x6_3 + 1)) l0_0 l0_1) = some r:=H
          have A14:=zA A140
          clear A140
          have H':=zA H
          clear H
          try go_wp2
          replace BK361:=zA (zM BK361.out)
          replace HB:=zA (zE HB.out)
          have p363:0 ≤ (x6_3:Int):=qd
          have q363:x6_3 < (l1.length:Int):=qd
          obtain ⟨ad363,A363_0,c363_0,e363,hx363_0,hl363_0,hi363_0⟩:=at_L4 HR1.out x6_3 p363 q363
          have hw363_0:=hx363_0
          cases e363
          replace hx363_0:=qy HB hx363_0
          have HR363_0:=zA hi363_0
          have HC363_0:=zA hl363_0
          clear hi363_0 hl363_0
          replace p363:=eq_true p363
          replace q363:=eq_true q363
          refine start_ (n:=9) (S:=fun w'=>w'.cell? ⟨gb361,0,none⟩ = some (.slice A0_0 l0_0.length c0_0)∧w'.cell? ⟨gb361,1,none⟩ = some (.slice A0_1 l0_1.length c0_1)∧w'.cell? (ad363.add (x6_3).toNat) = some (.slice A363_0 (rd_L4 l1 x6_3).length c363_0)) (ds:=[]) #[false,false,false,false,false,false,false,false,false] (by kernel_rfl) rfl rfl ⟨(zI BK361.out 0).trans rfl,(zI BK361.out 1).trans rfl,(qy HB hw363_0 :)⟩ (fun hHeld=>?_);refine with_tabW foretellref_PropsFault.tab7 foretellref_PropsFault.bits7 (fun HT_ HW_=>?_)
          generalize wr.drew = w15 at BK361 HB HR363_0 hx363_0 hHeld ⊢
          refine pq 0 (some 26) HT_ ?_
          refine pq 1 (some 27) HT_ ?_
          refine pq 2 (some 28) HT_ ?_
          refine pq 4 (some 30) HT_ ?_
          refine tq 3 (some 29) HT_ HW_ hHeld ?_
          refine tq 5 (some 31) HT_ HW_ hHeld ?_
          refine pq 6 (some 32) HT_ ?_
          refine oq 7 (some 33) HT_ (fun K hK=>?_)
          refine gq Tryd.func86 #[.slice A363_0 (rd_L4 l1 x6_3).length c363_0,.int .i64 (l0_0.length:Int),.bool true] ?_
          with_reducible refine (foretellref_kindFault.calls k3 _ _ (rd_L4 l1 x6_3) (l0_0.length:Int) true t364 _ (qc HR363_0) HC363_0.out A14.out).mono ?_
          rintro e w16 ⟨rfl,hb⟩
          refine ⟨_,rfl,?_⟩
          replace BK361:=qK BK361 hb
          replace HB:=zA (zH qb hb)
          (try clear hb)
          (try clear hb2)
          (try clear hk)
          (try clear hi)
          refine hK.out _ _ ⟨(zI BK361.out 0).trans rfl,(zI BK361.out 1).trans rfl,(qy HB hw363_0 :)⟩ (fun hHeld=>?_)
          clear hK K
          refine norm_ (a':=?_) ?_ ?_
          rotate_left
          ·show Act.put _ (some 33) _ = _
           simp only [Act.put,zX,zY,zZ,i64_w,i32_w]
           rfl
          refine pq 8 (some 5) HT_ ?_
          refine done_ (done_of HT_.out (by kernel_rfl)) ?_
          try go_wp2
          go_roundg k3
          case measure=>have:=HJ3.out;have:=HJ8.out;have:=HK3.out;omega
          case rel=>exact ⟨(t364),(wrap64 (x6_3 + 1)),qr,qr,H',⟨qq HJ3 HJ8 HK3⟩,⟨qk BK361⟩,⟨qb⟩⟩
         ·exact absurd H (by simp)
        ·rw [if_neg c12] at H
         have c12b0:(x5_3 == 0) = false:=beq_eq_false_iff_ne.mpr c12
         have c12b1:(x5_3 != 0) = true:=bne_iff_ne.mpr c12
         obtain rfl:=Option.some.inj H
         go_wp2
         go_ret
         exact ⟨qe,qb⟩
       ·obtain rfl:=Option.some.inj H
        go_wp2
        go_ret
        exact ⟨qe,qb⟩
end Go.Proofs.YthffpjkkmkjplaaDoor.S
namespace Go.Proofs.YthffpjkkmkjplaaDoor.S
open Go.Proofs.YthffpjkkmkjplaaDoor.Al
open Option renaming bind_eq_some_iff → zb
open Go.Proofs.YthffpjkkmkjplaaDoorW.PrintWords renaming below_step → zH, blk_frozen → zJ, gate_callee → zU, gate_dst → zV
open Go.Proofs.YthffpjkkmkjplaaDoor.Sq
open Go.RowKit Go.Proofs.YthffpjkkmkjplaaDoorW.PrintWords Go.Proofs.YthffpjkkmkjplaaDoorW.PrintLast Go.Proofs.YthffpjkkmkjplaaDoorW.PrintMore
attribute [local go_sem] max2_int min2_int max_two min_two max_three min_three max_four min_four
set_option linter.unusedVariables false
set_option linter.unusedSimpArgs false
def foretellref_TaskFault.f (k:Nat) (l0_0:List (S86)) (l0_1:List (S93)) (l0_2:List (List (S65))) (l0_3:List (S65)):Option (Int):=(foretellref_PropsFault.f k l0_0 l0_1 l0_2).bind fun t366=>(if t366 = 0 then ((foretellref_FormulaFault.f k l0_3 (l0_2.length:Int)).bind fun t367=>(some t367)) else (some t366))
theorem foretellref_TaskFault.mono:∀ a0 a1 a2 a3 k,LeO (foretellref_TaskFault.f k a0 a1 a2 a3) (foretellref_TaskFault.f (k + 1) a0 a1 a2 a3):=by
 intro a0 a1 a2 a3 k
 unfold foretellref_TaskFault.f
 exact qM (And.intro @foretellref_FormulaFault.mono @foretellref_PropsFault.mono)
set_option maxHeartbeats 8000000 in
set_option maxRecDepth 100000 in
theorem foretellref_TaskFault.calls (k:Nat) (A0_0:Option Addr) (c0_0:Nat) (l0_0:List (S86)) (A0_1:Option Addr) (c0_1:Nat) (l0_1:List (S93)) (A0_2:Option Addr) (c0_2:Nat) (l0_2:List (List (S65))) (A0_3:Option Addr) (c0_3:Nat) (l0_3:List (S65)) (r:Int) (w:World) (hr0_0:Kd.C k86 w A0_0 l0_0.length l0_0) (hc0_0:l0_0.length ≤ c0_0) (hr0_1:Kd.C k93 w A0_1 l0_1.length l0_1) (hc0_1:l0_1.length ≤ c0_1) (hr0_2:Kd.C (Kd.slice 65 k65) w A0_2 l0_2.length l0_2) (hc0_2:l0_2.length ≤ c0_2) (hr0_3:Kd.C k65 w A0_3 l0_3.length l0_3) (hc0_3:l0_3.length ≤ c0_3) (h:foretellref_TaskFault.f k l0_0 l0_1 l0_2 l0_3 = some r) :
  Calls Tryd.prog 35 #[.agg #[.slice A0_0 l0_0.length c0_0,.slice A0_1 l0_1.length c0_1,.slice A0_2 l0_2.length c0_2,.slice A0_3 l0_3.length c0_3]] w fun e w'=>e = .returned (.int .i64 r)∧Below w.heap.size w w':=by
 have hu47:=Tryd.underlying47
 have hu44:=Tryd.underlying44
 have HR0_0:=zA hr0_0
 have HC0_0:=zA hc0_0
 clear hr0_0 hc0_0
 have HR0_1:=zA hr0_1
 have HC0_1:=zA hc0_1
 clear hr0_1 hc0_1
 have HR0_2:=zA hr0_2
 have HC0_2:=zA hc0_2
 clear hr0_2 hc0_2
 have HR0_3:=zA hr0_3
 have HC0_3:=zA hc0_3
 clear hr0_3 hc0_3
 have HB:=zA (Below.refl w.heap.size w)
 have H:((foretellref_PropsFault.f k l0_0 l0_1 l0_2).bind fun t366=>(if t366 = 0 then ((foretellref_FormulaFault.f k l0_3 (l0_2.length:Int)).bind fun t367=>(some t367)) else (some t366))) = some r:=h
 clear h
 replace H:=zb.mp H
 obtain ⟨t366,A20,H⟩:=H
 replace H:(if t366 = 0 then ((foretellref_FormulaFault.f k l0_3 (l0_2.length:Int)).bind fun t367=>(some t367)) else (some t366)) = some r:=H
 have A2:=zA A20
 clear A20
 by_cases c3:t366 = 0
 ·rw [if_pos c3] at H
  have c3b0:(t366 == 0) = true:=beq_iff_eq.mpr c3
  have c3b1:(t366 != 0) = false:=bne_eq_false_iff_eq.mpr c3
  clear c3
  replace H:=zb.mp H
  obtain ⟨t367,A40,H⟩:=H
  replace H:(some t367) = some r:=H
  have A4:=zA A40
  clear A40
  obtain rfl:=Option.some.inj H
  go_enter Tryd.func35,Tryd.ntmps35
  go_wp2_with (first|((with_reducible refine zV (N:=1) rfl ?_);refine bq 1 (cs:=#[.slice A0_0 l0_0.length c0_0,.slice A0_1 l0_1.length c0_1,.slice A0_2 l0_2.length c0_2,.slice A0_3 l0_3.length c0_3]) (t:=47) ?_;intro gb365 hg w5 hbox hb;have BK365:=zA (hbox);have GW365:=zA (qg hg);have GE365:=zA (qg hg);replace HB:=zA (zH qb hb);clear hb hbox hg;have hcz6_0:=qx BK365 0;have hcz6_1:=qx BK365 1;have hcz6_2:=qx BK365 2;have hcz6_3:=qx BK365 3;have hfz6_0:=zJ BK365.out 0;have hfz6_1:=zJ BK365.out 1;have hfz6_2:=zJ BK365.out 2;have hfz6_3:=zJ BK365.out 3)|((with_reducible refine zU (f:=57) rfl ?_);refine gL (some 8) Tryd.func57 #[.agg #[.slice A0_0 l0_0.length c0_0,.slice A0_1 l0_1.length c0_1],.slice A0_2 l0_2.length c0_2] ?_;(with_reducible refine (foretellref_PropsFault.calls k _ _ l0_0 _ _ l0_1 _ _ l0_2 t366 _ (qc HR0_0) HC0_0.out (qc HR0_1) HC0_1.out (qc HR0_2) HC0_2.out A2.out).mono ?_);rintro e w7 ⟨rfl,hb⟩;refine ⟨_,rfl,?_⟩;replace BK365:=qK BK365 hb;replace HB:=zA (zH qb hb);clear hb;have hcz8_0:=qx BK365 0;have hcz8_1:=qx BK365 1;have hcz8_2:=qx BK365 2;have hcz8_3:=qx BK365 3;have hfz8_0:=zJ BK365.out 0;have hfz8_1:=zJ BK365.out 1;have hfz8_2:=zJ BK365.out 2;have hfz8_3:=zJ BK365.out 3)|((with_reducible refine zU (f:=46) rfl ?_);refine gL (some 16) Tryd.func46 #[.slice A0_3 l0_3.length c0_3,.int .i64 (l0_2.length:Int)] ?_;(with_reducible refine (foretellref_FormulaFault.calls k _ _ l0_3 (l0_2.length:Int) t367 _ (qc HR0_3) HC0_3.out A4.out).mono ?_);rintro e w9 ⟨rfl,hb⟩;refine ⟨_,rfl,?_⟩;replace BK365:=qK BK365 hb;replace HB:=zA (zH qb hb);clear hb))
  go_ret
  exact ⟨qe,qb⟩
 ·rw [if_neg c3] at H
  have c3b0:(t366 == 0) = false:=beq_eq_false_iff_ne.mpr c3
  have c3b1:(t366 != 0) = true:=bne_iff_ne.mpr c3
  obtain rfl:=Option.some.inj H
  go_enter Tryd.func35,Tryd.ntmps35
  go_wp2_with (first|((with_reducible refine zV (N:=1) rfl ?_);refine bq 1 (cs:=#[.slice A0_0 l0_0.length c0_0,.slice A0_1 l0_1.length c0_1,.slice A0_2 l0_2.length c0_2,.slice A0_3 l0_3.length c0_3]) (t:=47) ?_;intro gb365 hg w10 hbox hb;have BK365:=zA (hbox);have GW365:=zA (qg hg);have GE365:=zA (qg hg);replace HB:=zA (zH qb hb);clear hb hbox hg;have hcz11_0:=qx BK365 0;have hcz11_1:=qx BK365 1;have hcz11_2:=qx BK365 2;have hcz11_3:=qx BK365 3;have hfz11_0:=zJ BK365.out 0;have hfz11_1:=zJ BK365.out 1;have hfz11_2:=zJ BK365.out 2;have hfz11_3:=zJ BK365.out 3)|((with_reducible refine zU (f:=57) rfl ?_);refine gL (some 8) Tryd.func57 #[.agg #[.slice A0_0 l0_0.length c0_0,.slice A0_1 l0_1.length c0_1],.slice A0_2 l0_2.length c0_2] ?_;(with_reducible refine (foretellref_PropsFault.calls k _ _ l0_0 _ _ l0_1 _ _ l0_2 t366 _ (qc HR0_0) HC0_0.out (qc HR0_1) HC0_1.out (qc HR0_2) HC0_2.out A2.out).mono ?_);rintro e w12 ⟨rfl,hb⟩;refine ⟨_,rfl,?_⟩;replace BK365:=qK BK365 hb;replace HB:=zA (zH qb hb);clear hb))
  go_ret
  exact ⟨qe,qb⟩
end Go.Proofs.YthffpjkkmkjplaaDoor.S
namespace Go.Proofs.YthffpjkkmkjplaaDoor.S
open Go.Proofs.YthffpjkkmkjplaaDoor.Al
open Go.Proofs.YthffpjkkmkjplaaDoorW.PrintWords renaming below_step → zH, blk_frozen → zJ, gate_dst → zV
open Go.Proofs.YthffpjkkmkjplaaDoor.Sq
open Go.RowKit Go.Proofs.YthffpjkkmkjplaaDoorW.PrintWords Go.Proofs.YthffpjkkmkjplaaDoorW.PrintLast Go.Proofs.YthffpjkkmkjplaaDoorW.PrintMore
attribute [local go_sem] max2_int min2_int max_two min_two max_three min_three max_four min_four
set_option linter.unusedVariables false
set_option linter.unusedSimpArgs false
def foretellref_behindVar.l0:Nat → Int → Int → List (S86) → List (S93) → Option (Int)
 | 0,_,_,_,_=>none
 | k + 1,x5,x6,x369000,x369001=>if x6 < (x369000.length:Int) then (if 0 ≤ x6 then (foretellref_behindVar.l0 k (wrap64 (x5 * (wrap64 ((wrap64 (((rd_T86 x369000 x6).f2) - ((rd_T86 x369000 x6).f1))) + 1)))) (wrap64 (x6 + 1)) x369000 x369001) else (none)) else (some x5)
def foretellref_behindVar.f (k:Nat) (l0_0:List (S86)) (l0_1:List (S93)) (a1:Int):Option (Int):=foretellref_behindVar.l0 k 1 (wrap64 (a1 + 1)) l0_0 l0_1
theorem foretellref_behindVar.mono_l:∀ k,(∀ y0 y1 y2 y3,LeO (foretellref_behindVar.l0 k y0 y1 y2 y3) (foretellref_behindVar.l0 (k + 1) y0 y1 y2 y3))
 | 0=>fun _ _ _ _ r h=>by simp [foretellref_behindVar.l0] at h
 | k + 1=>by
  have ih0:=foretellref_behindVar.mono_l k
  ·intro y0 y1 y2 y3
   unfold foretellref_behindVar.l0
   exact qL
theorem foretellref_behindVar.mono:∀ a0 a1 a2 k,LeO (foretellref_behindVar.f k a0 a1 a2) (foretellref_behindVar.f (k + 1) a0 a1 a2):=by
 intro a0 a1 a2 k
 have ih0:=foretellref_behindVar.mono_l k
 unfold foretellref_behindVar.f
 exact qL
set_option maxHeartbeats 8000000 in
set_option maxRecDepth 100000 in
theorem foretellref_behindVar.calls (k:Nat) (A0_0:Option Addr) (c0_0:Nat) (l0_0:List (S86)) (A0_1:Option Addr) (c0_1:Nat) (l0_1:List (S93)) (a1:Int) (r:Int) (w:World) (hr0_0:Kd.C k86 w A0_0 l0_0.length l0_0) (hc0_0:l0_0.length ≤ c0_0) (hr0_1:Kd.C k93 w A0_1 l0_1.length l0_1) (hc0_1:l0_1.length ≤ c0_1) (h:foretellref_behindVar.f k l0_0 l0_1 a1 = some r) :
  Calls Tryd.prog 87 #[.agg #[.slice A0_0 l0_0.length c0_0,.slice A0_1 l0_1.length c0_1],.int .i64 a1] w fun e w'=>e = .returned (.int .i64 r)∧Below w.heap.size w w':=by
 have hu44:=Tryd.underlying44
 have HR0_0:=zA hr0_0
 have HC0_0:=zA hc0_0
 clear hr0_0 hc0_0
 have HR0_1:=zA hr0_1
 have HC0_1:=zA hc0_1
 clear hr0_1 hc0_1
 have HB:=zA (Below.refl w.heap.size w)
 have H:(foretellref_behindVar.l0 k 1 (wrap64 (a1 + 1)) l0_0 l0_1) = some r:=h
 clear h
 have H':=zA H
 clear H
 go_enter Tryd.func87,Tryd.ntmps87
 go_wp2_with (first|((with_reducible refine zV (N:=2) rfl ?_);refine bq 2 (cs:=#[.slice A0_0 l0_0.length c0_0,.slice A0_1 l0_1.length c0_1]) (t:=44) ?_;intro gb368 hg w3 hbox hb;have BK368:=zA (hbox);have GW368:=zA (qg hg);have GE368:=zA (qg hg);replace HB:=zA (zH qb hb);clear hb hbox hg))
 repeat (go_quiet (first|((with_reducible refine zV (N:=2) rfl ?_);refine bq 2 (cs:=#[.slice A0_0 l0_0.length c0_0,.slice A0_1 l0_1.length c0_1]) (t:=44) ?_;intro gb368 hg w3 hbox hb;have BK368:=zA (hbox);have GW368:=zA (qg hg);have GE368:=zA (qg hg);replace HB:=zA (zH qb hb);clear hb hbox hg));try go_wp2_with (first|((with_reducible refine zV (N:=2) rfl ?_);refine bq 2 (cs:=#[.slice A0_0 l0_0.length c0_0,.slice A0_1 l0_1.length c0_1]) (t:=44) ?_;intro gb368 hg w3 hbox hb;have BK368:=zA (hbox);have GW368:=zA (qg hg);have GE368:=zA (qg hg);replace HB:=zA (zH qb hb);clear hb hbox hg)))
 go_loopg [5,6] k (fun kq v5 v6 w'=>∃ (x5_1:Int) (x6_1:Int),v5 = .int .i64 x5_1∧v6 = .int .i64 x6_1∧Aside0 (foretellref_behindVar.l0 kq x5_1 x6_1 l0_0 l0_1 = some r)∧Aside0 (kq ≤ k)∧Aside0 (w'.heap[gb368]? = some (.cells #[(.slice A0_0 l0_0.length c0_0),(.slice A0_1 l0_1.length c0_1)] 44 (0,0)))∧Aside0 (Below w.heap.size w w'))
 case atStart=>exact ⟨(1),(wrap64 (a1 + 1)),qr,qr,H',⟨Nat.le_refl _⟩,⟨qk BK368⟩,⟨qb⟩⟩
 case round =>
  clear H'
  try clear p2
  obtain ⟨x5_1,x6_1,rfl,rfl,HA,HK1,BK368,HB⟩:=hrel
  cases gk with
  | zero=>exact absurd HA.out (by simp [foretellref_behindVar.l0])
  | succ k1 =>
   have H:=HA.out
   clear HA
   simp only [foretellref_behindVar.l0] at H
   rcases qj H with ⟨c4b0,H⟩|⟨c4b0,H⟩
   ·rcases qj H with ⟨c5b0,H⟩|⟨c5,H⟩
    ·have H':=zA H
     clear H
     have hcz6_0:=qx BK368 0
     have hcz6_1:=qx BK368 1
     have hfz6_0:=zJ BK368.out 0
     have hfz6_1:=zJ BK368.out 1
     have p369:0 ≤ (x6_1:Int):=qd
     have q369:x6_1 < (l0_0.length:Int):=qd
     obtain ⟨ad369,e369,hx369_0,hx369_1,hx369_2,hx369_3⟩:=at_T86 HR0_0.out x6_1 p369 q369
     cases e369
     replace hx369_0:=qy HB hx369_0
     replace hx369_1:=qy HB hx369_1
     replace hx369_2:=qy HB hx369_2
     replace hx369_3:=qy HB hx369_3
     replace p369:=eq_true p369
     replace q369:=eq_true q369
     have p370:0 ≤ (x6_1:Int):=qd
     have q370:x6_1 < (l0_0.length:Int):=qd
     obtain ⟨ad370,e370,hx370_0,hx370_1,hx370_2,hx370_3⟩:=at_T86 HR0_0.out x6_1 p370 q370
     obtain rfl:ad369 = ad370:=(by injection e370)
     replace hx370_0:=qy HB hx370_0
     replace hx370_1:=qy HB hx370_1
     replace hx370_2:=qy HB hx370_2
     replace hx370_3:=qy HB hx370_3
     replace p370:=eq_true p370
     replace q370:=eq_true q370
     go_wp2
     repeat (go_quiet (fail);try go_wp2)
     go_roundg k1
     case measure=>have:=HK1.out;omega
     case rel=>exact ⟨(wrap64 (x5_1 * (wrap64 ((wrap64 (((rd_T86 l0_0 x6_1).f2) - ((rd_T86 l0_0 x6_1).f1))) + 1)))),(wrap64 (x6_1 + 1)),qr,qr,H',⟨qo HK1⟩,⟨qk BK368⟩,⟨qb⟩⟩
    ·exact absurd H (by simp)
   ·obtain rfl:=Option.some.inj H
    have hcz7_0:=qx BK368 0
    have hcz7_1:=qx BK368 1
    have hfz7_0:=zJ BK368.out 0
    have hfz7_1:=zJ BK368.out 1
    go_wp2
    repeat (go_quiet (fail);try go_wp2)
    go_ret
    exact ⟨qe,qb⟩
end Go.Proofs.YthffpjkkmkjplaaDoor.S
namespace Go.Proofs.YthffpjkkmkjplaaDoor.S
open Go.Proofs.YthffpjkkmkjplaaDoor.Al
open Option renaming bind_eq_some_iff → zb
open List renaming setIfInBounds_toArray → zX, set_cons_zero → zY, set_cons_succ → zZ
open Go.Proofs.YthffpjkkmkjplaaDoorW.PrintWords renaming below_drew1 → zE, below_step → zH, blk_cell → zI, blk_frozen → zJ, blk_drew → zM, gate_callee → zU, gate_dst → zV
open Go.Proofs.YthffpjkkmkjplaaDoor.Sq
open Go.RowKit Go.Proofs.YthffpjkkmkjplaaDoorW.PrintWords Go.Proofs.YthffpjkkmkjplaaDoorW.PrintLast Go.Proofs.YthffpjkkmkjplaaDoorW.PrintMore
attribute [local go_sem] max2_int min2_int max_two min_two max_three min_three max_four min_four
set_option linter.unusedVariables false
set_option linter.unusedSimpArgs false
def foretellref_CodeOf.l0:Nat → List Int → Int → Int → List (S86) → List (S93) → Option (Int × Int)
 | 0,_,_,_,_,_=>none
 | k + 1,x1,x7,x8,x372000,x372001=>if x8 < (x1.length:Int) then (if 0 ≤ x8 then (if x8 < (x372000.length:Int) then ((foretellref_In.f (rd x1 x8) ((rd_T86 x372000 x8).f1) ((rd_T86 x372000 x8).f2)).bind fun t376=>(if t376 = true then ((foretellref_behindVar.f k x372000 x372001 x8).bind fun t379=>(foretellref_CodeOf.l0 k x1 (wrap64 (x7 + (wrap64 ((wrap64 ((rd x1 x8) - ((rd_T86 x372000 x8).f1))) * t379)))) (wrap64 (x8 + 1)) x372000 x372001)) else (some (0,9)))) else (none)) else (none)) else (some (x7,0))
def foretellref_CodeOf.f (k:Nat) (l0_0:List (S86)) (l0_1:List (S93)) (l1:List Int):Option (Int × Int):=(foretellref_ModelFault.f k l0_0 l0_1).bind fun t372=>(if t372 = 0 then (if (l1.length:Int) = (l0_0.length:Int) then (foretellref_CodeOf.l0 k l1 0 0 l0_0 l0_1) else (some (0,9))) else (some (0,t372)))
theorem foretellref_CodeOf.mono_l:∀ k,(∀ y0 y1 y2 y3 y4,LeO (foretellref_CodeOf.l0 k y0 y1 y2 y3 y4) (foretellref_CodeOf.l0 (k + 1) y0 y1 y2 y3 y4))
 | 0=>fun _ _ _ _ _ r h=>by simp [foretellref_CodeOf.l0] at h
 | k + 1=>by
  have ih0:=foretellref_CodeOf.mono_l k
  ·intro y0 y1 y2 y3 y4
   unfold foretellref_CodeOf.l0
   exact qM (And.intro @foretellref_ModelFault.mono @foretellref_behindVar.mono)
theorem foretellref_CodeOf.mono:∀ a0 a1 a2 k,LeO (foretellref_CodeOf.f k a0 a1 a2) (foretellref_CodeOf.f (k + 1) a0 a1 a2):=by
 intro a0 a1 a2 k
 have ih0:=foretellref_CodeOf.mono_l k
 unfold foretellref_CodeOf.f
 exact qM (And.intro @foretellref_ModelFault.mono @foretellref_behindVar.mono)
def foretellref_CodeOf.T10:Bool × List (List Nat × List Nat):=(true,[([],[]),([],[]),([0,1],[0,1]),([2],[2]),([],[]),([4],[4]),([],[]),([5,6],[5,6]),([7],[7]),([8],[8]),([],[]),([10],[10]),([],[]),([11,12],[11,12]),([13],[13]),([14],[14]),([3,9,15],[3,9,15]),([16],[16])])
def foretellref_CodeOf.B10:List Nat:=[0,0,3,7,0,16,0,112,240,496,0,1024,0,7168,15360,31744,65535,131071]
theorem foretellref_CodeOf.tab10:rtab .any (opsOf Tryd.f58 10) = foretellref_CodeOf.T10:=by kernel_rfl
theorem foretellref_CodeOf.bits10:waitsOk foretellref_CodeOf.T10.2 foretellref_CodeOf.B10 = true:=by kernel_rfl
def foretellref_CodeOf.T12:Bool × List (List Nat × List Nat):=(true,[([],[]),([],[]),([],[]),([1,2],[1,2]),([3],[3]),([],[]),([5],[5]),([],[]),([6,7],[6,7]),([8],[8]),([9],[9]),([4,10],[4,10]),([],[]),([],[]),([12,13],[12,13]),([11,14],[11,14]),([0,15],[0,15]),([16,14,0,1,2,3,4,5,6,7,8,9,10,11,12,13,14,15,16],[0,16])])
def foretellref_CodeOf.B12:List Nat:=[0,0,0,6,14,0,32,0,224,480,992,2046,0,0,12288,32766,65535,131071]
theorem foretellref_CodeOf.tab12:rtab .any (opsOf Tryd.f58 12) = foretellref_CodeOf.T12:=by kernel_rfl
theorem foretellref_CodeOf.bits12:waitsOk foretellref_CodeOf.T12.2 foretellref_CodeOf.B12 = true:=by kernel_rfl
set_option maxHeartbeats 8000000 in
set_option maxRecDepth 100000 in
theorem foretellref_CodeOf.calls (k:Nat) (A0_0:Option Addr) (c0_0:Nat) (l0_0:List (S86)) (A0_1:Option Addr) (c0_1:Nat) (l0_1:List (S93)) (A1:Option Addr) (c1:Nat) (l1:List Int) (r1:Int) (r2:Int) (w:World) (hr0_0:Kd.C k86 w A0_0 l0_0.length l0_0) (hc0_0:l0_0.length ≤ c0_0) (hr0_1:Kd.C k93 w A0_1 l0_1.length l0_1) (hc0_1:l0_1.length ≤ c0_1) (hr1:Kd.C (Kd.int .i64) w A1 l1.length l1) (hc1:l1.length ≤ c1) (h:foretellref_CodeOf.f k l0_0 l0_1 l1 = some (r1,r2)) :
  Calls Tryd.prog 58 #[.agg #[.slice A0_0 l0_0.length c0_0,.slice A0_1 l0_1.length c0_1],.slice A1 l1.length c1] w fun e w'=>e = .returned (.tuple #[.int .i64 r1,.int .i64 r2])∧Below w.heap.size w w':=by
 have hu44:=Tryd.underlying44
 have HR0_0:=zA hr0_0
 have HC0_0:=zA hc0_0
 clear hr0_0 hc0_0
 have HR0_1:=zA hr0_1
 have HC0_1:=zA hc0_1
 clear hr0_1 hc0_1
 have HR1:=zA hr1
 have HC1:=zA hc1
 clear hr1 hc1
 have HB:=zA (Below.refl w.heap.size w)
 have H:((foretellref_ModelFault.f k l0_0 l0_1).bind fun t372=>(if t372 = 0 then (if (l1.length:Int) = (l0_0.length:Int) then (foretellref_CodeOf.l0 k l1 0 0 l0_0 l0_1) else (some (0,9))) else (some (0,t372)))) = some (r1,r2):=h
 clear h
 replace H:=zb.mp H
 obtain ⟨t372,A30,H⟩:=H
 replace H:(if t372 = 0 then (if (l1.length:Int) = (l0_0.length:Int) then (foretellref_CodeOf.l0 k l1 0 0 l0_0 l0_1) else (some (0,9))) else (some (0,t372))) = some (r1,r2):=H
 have A3:=zA A30
 clear A30
 by_cases c4:t372 = 0
 ·rw [if_pos c4] at H
  have c4b0:(t372 == 0) = true:=beq_iff_eq.mpr c4
  have c4b1:(t372 != 0) = false:=bne_eq_false_iff_eq.mpr c4
  clear c4
  by_cases c5:(l1.length:Int) = (l0_0.length:Int)
  ·rw [if_pos c5] at H
   have c5b0:((l1.length:Int) == (l0_0.length:Int)) = true:=beq_iff_eq.mpr c5
   have c5b1:((l1.length:Int) != (l0_0.length:Int)) = false:=bne_eq_false_iff_eq.mpr c5
   have c5b2:(l1.length == l0_0.length) = true:=by first|simpa using c5|(simp at c5 ⊢;omega)
   clear c5
   have H':=zA H
   clear H
   go_enter Tryd.func58,Tryd.ntmps58
   go_wp2_with (first|((with_reducible refine zV (N:=2) rfl ?_);refine bq 2 (cs:=#[.slice A0_0 l0_0.length c0_0,.slice A0_1 l0_1.length c0_1]) (t:=44) ?_;intro gb371 hg w6 hbox hb;have BK371:=zA (hbox);have GW371:=zA (qg hg);have GE371:=zA (qg hg);replace HB:=zA (zH qb hb);clear hb hbox hg;have hcz7_0:=qx BK371 0;have hcz7_1:=qx BK371 1;have hfz7_0:=zJ BK371.out 0;have hfz7_1:=zJ BK371.out 1)|((with_reducible refine zU (f:=85) rfl ?_);refine gL (some 10) Tryd.func85 #[.agg #[.slice A0_0 l0_0.length c0_0,.slice A0_1 l0_1.length c0_1]] ?_;(with_reducible refine (foretellref_ModelFault.calls k _ _ l0_0 _ _ l0_1 t372 _ (qc HR0_0) HC0_0.out (qc HR0_1) HC0_1.out A3.out).mono ?_);rintro e w8 ⟨rfl,hb⟩;refine ⟨_,rfl,?_⟩;replace BK371:=qK BK371 hb;replace HB:=zA (zH qb hb);clear hb;have hcz9_0:=qx BK371 0;have hcz9_1:=qx BK371 1;have hfz9_0:=zJ BK371.out 0;have hfz9_1:=zJ BK371.out 1))
   go_loopg [7,8] k (fun kq v7 v8 w'=>∃ (x7_1:Int) (x8_1:Int),v7 = .int .i64 x7_1∧v8 = .int .i64 x8_1∧Aside0 (foretellref_CodeOf.l0 kq l1 x7_1 x8_1 l0_0 l0_1 = some (r1,r2))∧Aside0 (kq ≤ k)∧Aside0 (w'.heap[gb371]? = some (.cells #[(.slice A0_0 l0_0.length c0_0),(.slice A0_1 l0_1.length c0_1)] 44 (0,0)))∧Aside0 (Below w.heap.size w w'))
   case atStart=>exact ⟨(0),(0),qr,qr,H',⟨Nat.le_refl _⟩,⟨qk BK371⟩,⟨qb⟩⟩
   case round =>
    clear H'
    try clear c1
    try clear p2
    try clear c4
    try clear c4b0
    try clear c4b1
    try clear c5
    try clear c5b0
    try clear c5b1
    try clear c5b2
    try clear c8
    try clear hcz7_0
    try clear hcz7_1
    try clear hcz9_0
    try clear hcz9_1
    try clear hfz7_0
    try clear hfz7_1
    try clear hfz9_0
    try clear hfz9_1
    obtain ⟨x7_1,x8_1,rfl,rfl,HA,HK1,BK371,HB⟩:=hrel
    cases gk with
    | zero=>exact absurd HA.out (by simp [foretellref_CodeOf.l0])
    | succ k1 =>
     have H:=HA.out
     clear HA
     simp only [foretellref_CodeOf.l0] at H
     rcases qj H with ⟨c10b0,H⟩|⟨c10b0,H⟩
     ·rcases qj H with ⟨c11b0,H⟩|⟨c11,H⟩
      ·rcases qj H with ⟨c12b0,H⟩|⟨c12,H⟩
       ·replace H:=zb.mp H
        obtain ⟨t376,A130,H⟩:=H
        replace H:(if t376 = true then ((foretellref_behindVar.f k1 l0_0 l0_1 x8_1).bind fun t379=>(foretellref_CodeOf.l0 k1 l1 (wrap64 (x7_1 + (wrap64 ((wrap64 ((rd l1 x8_1) - ((rd_T86 l0_0 x8_1).f1))) * t379)))) (wrap64 (x8_1 + 1)) l0_0 l0_1)) else (some (0,9))) = some (r1,r2):=H
        have A13:=zA A130
        clear A130
        by_cases c14:t376 = true
        ·subst c14
         have H1:((foretellref_behindVar.f k1 l0_0 l0_1 x8_1).bind fun t379=>(foretellref_CodeOf.l0 k1 l1 (wrap64 (x7_1 + (wrap64 ((wrap64 ((rd l1 x8_1) - ((rd_T86 l0_0 x8_1).f1))) * t379)))) (wrap64 (x8_1 + 1)) l0_0 l0_1)) = some (r1,r2):=by rw [if_pos rfl] at H;exact H
         clear H
         have H:=H1
         clear H1
         replace H:=zb.mp H
         obtain ⟨t379,A150,H⟩:=H
         replace H:(foretellref_CodeOf.l0 k1 l1 (wrap64 (x7_1 + (wrap64 ((wrap64 ((rd l1 x8_1) - ((rd_T86 l0_0 x8_1).f1))) * t379)))) (wrap64 (x8_1 + 1)) l0_0 l0_1) = some (r1,r2):=H
         have A15:=zA A150
         clear A150
         have H':=zA H
         clear H
         try go_wp2
         replace BK371:=zA (zM BK371.out)
         replace HB:=zA (zE HB.out)
         have p373:0 ≤ (x8_1:Int):=qd
         have q373:x8_1 < (l1.length:Int):=qd
         obtain ⟨ad373,e373,hx373_0⟩:=Kd.at_int HR1.out x8_1 p373 q373
         have hw373_0:=hx373_0
         cases e373
         replace hx373_0:=qy HB hx373_0
         replace p373:=eq_true p373
         replace q373:=eq_true q373
         have p374:0 ≤ (x8_1:Int):=qd
         have q374:x8_1 < (l0_0.length:Int):=qd
         obtain ⟨ad374,e374,hx374_0,hx374_1,hx374_2,hx374_3⟩:=at_T86 HR0_0.out x8_1 p374 q374
         have hw374_3:=hx374_3
         have hw374_2:=hx374_2
         have hw374_1:=hx374_1
         have hw374_0:=hx374_0
         cases e374
         replace hx374_0:=qy HB hx374_0
         replace hx374_1:=qy HB hx374_1
         replace hx374_2:=qy HB hx374_2
         replace hx374_3:=qy HB hx374_3
         replace p374:=eq_true p374
         replace q374:=eq_true q374
         have p375:0 ≤ (x8_1:Int):=qd
         have q375:x8_1 < (l0_0.length:Int):=qd
         obtain ⟨ad375,e375,hx375_0,hx375_1,hx375_2,hx375_3⟩:=at_T86 HR0_0.out x8_1 p375 q375
         have hw375_3:=hx375_3
         have hw375_2:=hx375_2
         have hw375_1:=hx375_1
         have hw375_0:=hx375_0
         obtain rfl:ad374 = ad375:=(by injection e375)
         replace hx375_0:=qy HB hx375_0
         replace hx375_1:=qy HB hx375_1
         replace hx375_2:=qy HB hx375_2
         replace hx375_3:=qy HB hx375_3
         replace p375:=eq_true p375
         replace q375:=eq_true q375
         refine start_ (n:=18) (S:=fun w'=>w'.cell? ⟨gb371,0,none⟩ = some (.slice (some ad374) l0_0.length c0_0)∧w'.cell? ⟨gb371,1,none⟩ = some (.slice A0_1 l0_1.length c0_1)∧w'.cell? (ad373.add (x8_1).toNat) = some (.int .i64 (rd l1 x8_1))∧w'.cell? (ad374.add ((x8_1).toNat * 4)) = some (.string ((rd_T86 l0_0 x8_1).f0))∧w'.cell? ⟨(ad374.add ((x8_1).toNat * 4)).block,(ad374.add ((x8_1).toNat * 4)).off + 1,none⟩ = some (.int .i64 ((rd_T86 l0_0 x8_1).f1))∧w'.cell? ⟨(ad374.add ((x8_1).toNat * 4)).block,(ad374.add ((x8_1).toNat * 4)).off + 2,none⟩ = some (.int .i64 ((rd_T86 l0_0 x8_1).f2))∧w'.cell? ⟨(ad374.add ((x8_1).toNat * 4)).block,(ad374.add ((x8_1).toNat * 4)).off + 3,none⟩ = some (.int .i64 ((rd_T86 l0_0 x8_1).f3))∧w'.cell? (ad374.add ((x8_1).toNat * 4)) = some (.string ((rd_T86 l0_0 x8_1).f0))∧w'.cell? ⟨(ad374.add ((x8_1).toNat * 4)).block,(ad374.add ((x8_1).toNat * 4)).off + 1,none⟩ = some (.int .i64 ((rd_T86 l0_0 x8_1).f1))∧w'.cell? ⟨(ad374.add ((x8_1).toNat * 4)).block,(ad374.add ((x8_1).toNat * 4)).off + 2,none⟩ = some (.int .i64 ((rd_T86 l0_0 x8_1).f2))∧w'.cell? ⟨(ad374.add ((x8_1).toNat * 4)).block,(ad374.add ((x8_1).toNat * 4)).off + 3,none⟩ = some (.int .i64 ((rd_T86 l0_0 x8_1).f3))) (ds:=[]) #[false,false,false,false,false,false,false,false,false,false,false,false,false,false,false,false,false,false] (by kernel_rfl) rfl rfl ⟨(zI BK371.out 0).trans rfl,(zI BK371.out 1).trans rfl,(qy HB hw373_0 :),(qy HB hw374_0 :),(qy HB hw374_1 :),(qy HB hw374_2 :),(qy HB hw374_3 :),(qy HB hw375_0 :),(qy HB hw375_1 :),(qy HB hw375_2 :),(qy HB hw375_3 :)⟩ (fun hHeld=>?_);refine with_tabW foretellref_CodeOf.tab10 foretellref_CodeOf.bits10 (fun HT_ HW_=>?_)
         generalize wr.drew = w16 at BK371 HB hx373_0 hx374_0 hx374_1 hx374_2 hx374_3 hx375_0 hx375_1 hx375_2 hx375_3 hHeld ⊢
         refine pq 0 (some 26) HT_ ?_
         refine pq 1 (some 27) HT_ ?_
         refine pq 2 (some 28) HT_ ?_
         refine pq 4 (some 30) HT_ ?_
         refine pq 6 (some 32) HT_ ?_
         refine pq 10 (some 36) HT_ ?_
         refine pq 12 (some 38) HT_ ?_
         refine tq 3 (some 29) HT_ HW_ hHeld ?_
         refine tq 5 (some 31) HT_ HW_ hHeld ?_
         refine pq 7 (some 33) HT_ ?_
         refine pq 8 (some 34) HT_ ?_
         refine tq 9 (some 35) HT_ HW_ hHeld ?_
         refine tq 11 (some 37) HT_ HW_ hHeld ?_
         refine pq 13 (some 39) HT_ ?_
         refine pq 14 (some 40) HT_ ?_
         refine tq 15 (some 41) HT_ HW_ hHeld ?_
         refine oq 16 (some 42) HT_ (fun K hK=>?_)
         refine gq Tryd.func50 #[.int .i64 (rd l1 x8_1),.int .i64 ((rd_T86 l0_0 x8_1).f1),.int .i64 ((rd_T86 l0_0 x8_1).f2)] ?_
         with_reducible refine (foretellref_In.calls (rd l1 x8_1) ((rd_T86 l0_0 x8_1).f1) ((rd_T86 l0_0 x8_1).f2) true _ A13.out).mono ?_
         rintro e w' ⟨rfl,⟨nd,rfl⟩⟩
         refine ⟨_,rfl,?_⟩
         refine hK.out _ _ ⟨(zI BK371.out 0).trans rfl,(zI BK371.out 1).trans rfl,(qy HB hw373_0 :),(qy HB hw374_0 :),(qy HB hw374_1 :),(qy HB hw374_2 :),(qy HB hw374_3 :),(qy HB hw375_0 :),(qy HB hw375_1 :),(qy HB hw375_2 :),(qy HB hw375_3 :)⟩ (fun hHeld=>?_)
         clear hK K
         refine norm_ (a':=?_) ?_ ?_
         rotate_left
         ·show Act.put _ (some 42) _ = _
          simp only [Act.put,zX,zY,zZ,i64_w,i32_w]
          rfl
         refine pq 17 (some 43) HT_ ?_
         refine done_ (done_of HT_.out (by kernel_rfl)) ?_
         try go_wp2
         (try (rw [drewN_self w16];generalize hq_:World.drewN w16 _ = w16;have n0_:Aside0 (w16.heap[gb371]? = some (.cells #[.slice (some ad374) l0_0.length c0_0,.slice A0_1 l0_1.length c0_1] 44 (0,0))):=⟨by rw [← hq_];exact (qk BK371)⟩;have n1_:Aside0 (Below w.heap.size w w16):=⟨by rw [← hq_];exact qb⟩;clear BK371 HB hq_;have BK371:=n0_;have HB:=n1_;clear n0_ n1_))
         replace BK371:=zA (zM BK371.out)
         replace HB:=zA (zE HB.out)
         have p377:0 ≤ (x8_1:Int):=qd
         have q377:x8_1 < (l1.length:Int):=qd
         obtain ⟨ad377,e377,hx377_0⟩:=Kd.at_int HR1.out x8_1 p377 q377
         have hw377_0:=hx377_0
         obtain rfl:ad373 = ad377:=(by injection e377)
         replace hx377_0:=qy HB hx377_0
         replace p377:=eq_true p377
         replace q377:=eq_true q377
         have p378:0 ≤ (x8_1:Int):=qd
         have q378:x8_1 < (l0_0.length:Int):=qd
         obtain ⟨ad378,e378,hx378_0,hx378_1,hx378_2,hx378_3⟩:=at_T86 HR0_0.out x8_1 p378 q378
         have hw378_3:=hx378_3
         have hw378_2:=hx378_2
         have hw378_1:=hx378_1
         have hw378_0:=hx378_0
         obtain rfl:ad374 = ad378:=(by injection e378)
         replace hx378_0:=qy HB hx378_0
         replace hx378_1:=qy HB hx378_1
         replace hx378_2:=qy HB hx378_2
         replace hx378_3:=qy HB hx378_3
         replace p378:=eq_true p378
         replace q378:=eq_true q378
         refine start_ (n:=18) (S:=fun w'=>w'.cell? ⟨gb371,0,none⟩ = some (.slice (some ad374) l0_0.length c0_0)∧w'.cell? ⟨gb371,1,none⟩ = some (.slice A0_1 l0_1.length c0_1)∧w'.cell? (ad373.add (x8_1).toNat) = some (.int .i64 (rd l1 x8_1))∧w'.cell? (ad374.add ((x8_1).toNat * 4)) = some (.string ((rd_T86 l0_0 x8_1).f0))∧w'.cell? ⟨(ad374.add ((x8_1).toNat * 4)).block,(ad374.add ((x8_1).toNat * 4)).off + 1,none⟩ = some (.int .i64 ((rd_T86 l0_0 x8_1).f1))∧w'.cell? ⟨(ad374.add ((x8_1).toNat * 4)).block,(ad374.add ((x8_1).toNat * 4)).off + 2,none⟩ = some (.int .i64 ((rd_T86 l0_0 x8_1).f2))∧w'.cell? ⟨(ad374.add ((x8_1).toNat * 4)).block,(ad374.add ((x8_1).toNat * 4)).off + 3,none⟩ = some (.int .i64 ((rd_T86 l0_0 x8_1).f3))) (ds:=[]) #[false,false,false,false,false,false,false,false,false,false,false,false,false,false,false,false,false,false] (by kernel_rfl) rfl rfl ⟨(zI BK371.out 0).trans rfl,(zI BK371.out 1).trans rfl,(qy HB hw377_0 :),(qy HB hw378_0 :),(qy HB hw378_1 :),(qy HB hw378_2 :),(qy HB hw378_3 :)⟩ (fun hHeld=>?_);refine with_tabW foretellref_CodeOf.tab12 foretellref_CodeOf.bits12 (fun HT_ HW_=>?_)
         generalize w16.drew = w17 at BK371 HB hx377_0 hx378_0 hx378_1 hx378_2 hx378_3 hHeld ⊢
         refine pq 0 (some 44) HT_ ?_
         refine pq 1 (some 45) HT_ ?_
         refine pq 2 (some 46) HT_ ?_
         refine pq 3 (some 47) HT_ ?_
         refine pq 5 (some 49) HT_ ?_
         refine pq 7 (some 51) HT_ ?_
         refine pq 13 (some 57) HT_ ?_
         refine tq 4 (some 48) HT_ HW_ hHeld ?_
         refine tq 6 (some 50) HT_ HW_ hHeld ?_
         refine pq 8 (some 52) HT_ ?_
         refine pq 9 (some 53) HT_ ?_
         refine tq 10 (some 54) HT_ HW_ hHeld ?_
         refine pq 11 (some 55) HT_ ?_
         refine tq 12 (some 56) HT_ HW_ hHeld ?_
         refine oq 14 (some 58) HT_ (fun K hK=>?_)
         refine gq Tryd.func87 #[.agg #[.slice (some ad374) l0_0.length c0_0,.slice A0_1 l0_1.length c0_1],.int .i64 x8_1] ?_
         with_reducible refine (foretellref_behindVar.calls k1 _ _ l0_0 _ _ l0_1 x8_1 t379 _ (qc HR0_0) HC0_0.out (qc HR0_1) HC0_1.out A15.out).mono ?_
         rintro e w18 ⟨rfl,hb⟩
         refine ⟨_,rfl,?_⟩
         replace BK371:=qK BK371 hb
         replace HB:=zA (zH qb hb)
         (try clear hb)
         (try clear hb2)
         (try clear hk)
         (try clear hi)
         refine hK.out _ _ ⟨(zI BK371.out 0).trans rfl,(zI BK371.out 1).trans rfl,(qy HB hw377_0 :),(qy HB hw378_0 :),(qy HB hw378_1 :),(qy HB hw378_2 :),(qy HB hw378_3 :)⟩ (fun hHeld=>?_)
         clear hK K
         refine norm_ (a':=?_) ?_ ?_
         rotate_left
         ·show Act.put _ (some 58) _ = _
          simp only [Act.put,zX,zY,zZ,i64_w,i32_w]
          rfl
         refine pq 15 (some 59) HT_ ?_
         refine pq 16 (some 60) HT_ ?_
         refine pq 17 (some 7) HT_ ?_
         refine done_ (done_of HT_.out (by kernel_rfl)) ?_
         try go_wp2
         go_roundg k1
         case measure=>have:=HK1.out;omega
         case rel=>exact ⟨(wrap64 (x7_1 + (wrap64 ((wrap64 ((rd l1 x8_1) - ((rd_T86 l0_0 x8_1).f1))) * t379)))),(wrap64 (x8_1 + 1)),qr,qr,H',⟨qo HK1⟩,⟨qk BK371⟩,⟨qb⟩⟩
        ·replace c14:=Bool.eq_false_iff.mpr c14
         subst c14
         have H1:(some (0,9)) = some (r1,r2):=by rw [if_neg (show ¬ (false = true) by decide)] at H;exact H
         clear H
         have H:=H1
         clear H1
         simp only [Option.some.injEq,Prod.mk.injEq] at H
         obtain ⟨rfl,rfl⟩:=H
         try go_wp2
         replace BK371:=zA (zM BK371.out)
         replace HB:=zA (zE HB.out)
         have p373:0 ≤ (x8_1:Int):=qd
         have q373:x8_1 < (l1.length:Int):=qd
         obtain ⟨ad373,e373,hx373_0⟩:=Kd.at_int HR1.out x8_1 p373 q373
         have hw373_0:=hx373_0
         cases e373
         replace hx373_0:=qy HB hx373_0
         replace p373:=eq_true p373
         replace q373:=eq_true q373
         have p374:0 ≤ (x8_1:Int):=qd
         have q374:x8_1 < (l0_0.length:Int):=qd
         obtain ⟨ad374,e374,hx374_0,hx374_1,hx374_2,hx374_3⟩:=at_T86 HR0_0.out x8_1 p374 q374
         have hw374_3:=hx374_3
         have hw374_2:=hx374_2
         have hw374_1:=hx374_1
         have hw374_0:=hx374_0
         cases e374
         replace hx374_0:=qy HB hx374_0
         replace hx374_1:=qy HB hx374_1
         replace hx374_2:=qy HB hx374_2
         replace hx374_3:=qy HB hx374_3
         replace p374:=eq_true p374
         replace q374:=eq_true q374
         have p375:0 ≤ (x8_1:Int):=qd
         have q375:x8_1 < (l0_0.length:Int):=qd
         obtain ⟨ad375,e375,hx375_0,hx375_1,hx375_2,hx375_3⟩:=at_T86 HR0_0.out x8_1 p375 q375
         have hw375_3:=hx375_3
         have hw375_2:=hx375_2
         have hw375_1:=hx375_1
         have hw375_0:=hx375_0
         obtain rfl:ad374 = ad375:=(by injection e375)
         replace hx375_0:=qy HB hx375_0
         replace hx375_1:=qy HB hx375_1
         replace hx375_2:=qy HB hx375_2
         replace hx375_3:=qy HB hx375_3
         replace p375:=eq_true p375
         replace q375:=eq_true q375
         refine start_ (n:=18) (S:=fun w'=>w'.cell? ⟨gb371,0,none⟩ = some (.slice (some ad374) l0_0.length c0_0)∧w'.cell? ⟨gb371,1,none⟩ = some (.slice A0_1 l0_1.length c0_1)∧w'.cell? (ad373.add (x8_1).toNat) = some (.int .i64 (rd l1 x8_1))∧w'.cell? (ad374.add ((x8_1).toNat * 4)) = some (.string ((rd_T86 l0_0 x8_1).f0))∧w'.cell? ⟨(ad374.add ((x8_1).toNat * 4)).block,(ad374.add ((x8_1).toNat * 4)).off + 1,none⟩ = some (.int .i64 ((rd_T86 l0_0 x8_1).f1))∧w'.cell? ⟨(ad374.add ((x8_1).toNat * 4)).block,(ad374.add ((x8_1).toNat * 4)).off + 2,none⟩ = some (.int .i64 ((rd_T86 l0_0 x8_1).f2))∧w'.cell? ⟨(ad374.add ((x8_1).toNat * 4)).block,(ad374.add ((x8_1).toNat * 4)).off + 3,none⟩ = some (.int .i64 ((rd_T86 l0_0 x8_1).f3))∧w'.cell? (ad374.add ((x8_1).toNat * 4)) = some (.string ((rd_T86 l0_0 x8_1).f0))∧w'.cell? ⟨(ad374.add ((x8_1).toNat * 4)).block,(ad374.add ((x8_1).toNat * 4)).off + 1,none⟩ = some (.int .i64 ((rd_T86 l0_0 x8_1).f1))∧w'.cell? ⟨(ad374.add ((x8_1).toNat * 4)).block,(ad374.add ((x8_1).toNat * 4)).off + 2,none⟩ = some (.int .i64 ((rd_T86 l0_0 x8_1).f2))∧w'.cell? ⟨(ad374.add ((x8_1).toNat * 4)).block,(ad374.add ((x8_1).toNat * 4)).off + 3,none⟩ = some (.int .i64 ((rd_T86 l0_0 x8_1).f3))) (ds:=[]) #[false,false,false,false,false,false,false,false,false,false,false,false,false,false,false,false,false,false] (by kernel_rfl) rfl rfl ⟨(zI BK371.out 0).trans rfl,(zI BK371.out 1).trans rfl,(qy HB hw373_0 :),(qy HB hw374_0 :),(qy HB hw374_1 :),(qy HB hw374_2 :),(qy HB hw374_3 :),(qy HB hw375_0 :),(qy HB hw375_1 :),(qy HB hw375_2 :),(qy HB hw375_3 :)⟩ (fun hHeld=>?_);refine with_tabW foretellref_CodeOf.tab10 foretellref_CodeOf.bits10 (fun HT_ HW_=>?_)
         generalize wr.drew = w19 at BK371 HB hx373_0 hx374_0 hx374_1 hx374_2 hx374_3 hx375_0 hx375_1 hx375_2 hx375_3 hHeld ⊢
         refine pq 0 (some 26) HT_ ?_
         refine pq 1 (some 27) HT_ ?_
         refine pq 2 (some 28) HT_ ?_
         refine pq 4 (some 30) HT_ ?_
         refine pq 6 (some 32) HT_ ?_
         refine pq 10 (some 36) HT_ ?_
         refine pq 12 (some 38) HT_ ?_
         refine tq 3 (some 29) HT_ HW_ hHeld ?_
         refine tq 5 (some 31) HT_ HW_ hHeld ?_
         refine pq 7 (some 33) HT_ ?_
         refine pq 8 (some 34) HT_ ?_
         refine tq 9 (some 35) HT_ HW_ hHeld ?_
         refine tq 11 (some 37) HT_ HW_ hHeld ?_
         refine pq 13 (some 39) HT_ ?_
         refine pq 14 (some 40) HT_ ?_
         refine tq 15 (some 41) HT_ HW_ hHeld ?_
         refine oq 16 (some 42) HT_ (fun K hK=>?_)
         refine gq Tryd.func50 #[.int .i64 (rd l1 x8_1),.int .i64 ((rd_T86 l0_0 x8_1).f1),.int .i64 ((rd_T86 l0_0 x8_1).f2)] ?_
         with_reducible refine (foretellref_In.calls (rd l1 x8_1) ((rd_T86 l0_0 x8_1).f1) ((rd_T86 l0_0 x8_1).f2) false _ A13.out).mono ?_
         rintro e w' ⟨rfl,⟨nd,rfl⟩⟩
         refine ⟨_,rfl,?_⟩
         refine hK.out _ _ ⟨(zI BK371.out 0).trans rfl,(zI BK371.out 1).trans rfl,(qy HB hw373_0 :),(qy HB hw374_0 :),(qy HB hw374_1 :),(qy HB hw374_2 :),(qy HB hw374_3 :),(qy HB hw375_0 :),(qy HB hw375_1 :),(qy HB hw375_2 :),(qy HB hw375_3 :)⟩ (fun hHeld=>?_)
         clear hK K
         refine norm_ (a':=?_) ?_ ?_
         rotate_left
         ·show Act.put _ (some 42) _ = _
          simp only [Act.put,zX,zY,zZ,i64_w,i32_w]
          rfl
         refine pq 17 (some 43) HT_ ?_
         refine done_ (done_of HT_.out (by kernel_rfl)) ?_
         try go_wp2
         go_ret2
         exact ⟨qe,qb⟩
       ·exact absurd H (by simp)
      ·exact absurd H (by simp)
     ·simp only [Option.some.injEq,Prod.mk.injEq] at H
      obtain ⟨rfl,rfl⟩:=H
      go_wp2
      go_ret2
      exact ⟨qe,qb⟩
  ·rw [if_neg c5] at H
   have c5b0:((l1.length:Int) == (l0_0.length:Int)) = false:=beq_eq_false_iff_ne.mpr c5
   have c5b1:((l1.length:Int) != (l0_0.length:Int)) = true:=bne_iff_ne.mpr c5
   have c5b2:(l1.length == l0_0.length) = false:=by first|simpa using c5|(simp at c5 ⊢;omega)
   simp only [Option.some.injEq,Prod.mk.injEq] at H
   obtain ⟨rfl,rfl⟩:=H
   go_enter Tryd.func58,Tryd.ntmps58
   go_wp2_with (first|((with_reducible refine zV (N:=2) rfl ?_);refine bq 2 (cs:=#[.slice A0_0 l0_0.length c0_0,.slice A0_1 l0_1.length c0_1]) (t:=44) ?_;intro gb371 hg w20 hbox hb;have BK371:=zA (hbox);have GW371:=zA (qg hg);have GE371:=zA (qg hg);replace HB:=zA (zH qb hb);clear hb hbox hg;have hcz21_0:=qx BK371 0;have hcz21_1:=qx BK371 1;have hfz21_0:=zJ BK371.out 0;have hfz21_1:=zJ BK371.out 1)|((with_reducible refine zU (f:=85) rfl ?_);refine gL (some 10) Tryd.func85 #[.agg #[.slice A0_0 l0_0.length c0_0,.slice A0_1 l0_1.length c0_1]] ?_;(with_reducible refine (foretellref_ModelFault.calls k _ _ l0_0 _ _ l0_1 t372 _ (qc HR0_0) HC0_0.out (qc HR0_1) HC0_1.out A3.out).mono ?_);rintro e w22 ⟨rfl,hb⟩;refine ⟨_,rfl,?_⟩;replace BK371:=qK BK371 hb;replace HB:=zA (zH qb hb);clear hb;have hcz23_0:=qx BK371 0;have hcz23_1:=qx BK371 1;have hfz23_0:=zJ BK371.out 0;have hfz23_1:=zJ BK371.out 1))
   go_ret2
   exact ⟨qe,qb⟩
 ·rw [if_neg c4] at H
  have c4b0:(t372 == 0) = false:=beq_eq_false_iff_ne.mpr c4
  have c4b1:(t372 != 0) = true:=bne_iff_ne.mpr c4
  simp only [Option.some.injEq,Prod.mk.injEq] at H
  obtain ⟨rfl,rfl⟩:=H
  go_enter Tryd.func58,Tryd.ntmps58
  go_wp2_with (first|((with_reducible refine zV (N:=2) rfl ?_);refine bq 2 (cs:=#[.slice A0_0 l0_0.length c0_0,.slice A0_1 l0_1.length c0_1]) (t:=44) ?_;intro gb371 hg w24 hbox hb;have BK371:=zA (hbox);have GW371:=zA (qg hg);have GE371:=zA (qg hg);replace HB:=zA (zH qb hb);clear hb hbox hg;have hcz25_0:=qx BK371 0;have hcz25_1:=qx BK371 1;have hfz25_0:=zJ BK371.out 0;have hfz25_1:=zJ BK371.out 1)|((with_reducible refine zU (f:=85) rfl ?_);refine gL (some 10) Tryd.func85 #[.agg #[.slice A0_0 l0_0.length c0_0,.slice A0_1 l0_1.length c0_1]] ?_;(with_reducible refine (foretellref_ModelFault.calls k _ _ l0_0 _ _ l0_1 t372 _ (qc HR0_0) HC0_0.out (qc HR0_1) HC0_1.out A3.out).mono ?_);rintro e w26 ⟨rfl,hb⟩;refine ⟨_,rfl,?_⟩;replace BK371:=qK BK371 hb;replace HB:=zA (zH qb hb);clear hb))
  go_ret2
  exact ⟨qe,qb⟩
end Go.Proofs.YthffpjkkmkjplaaDoor.S
namespace Go.Proofs.YthffpjkkmkjplaaDoor.S
open Go.Proofs.YthffpjkkmkjplaaDoor.Al
open Option renaming bind_eq_some_iff → zb
open Go.Proofs.YthffpjkkmkjplaaDoorW.PrintWords renaming below_step → zH, blk_frozen → zJ, gate_callee → zU, gate_dst → zV
open Go.Proofs.YthffpjkkmkjplaaDoor.Sq
open Go.RowKit Go.Proofs.YthffpjkkmkjplaaDoorW.PrintWords Go.Proofs.YthffpjkkmkjplaaDoorW.PrintLast Go.Proofs.YthffpjkkmkjplaaDoorW.PrintMore
attribute [local go_sem] max2_int min2_int max_two min_two max_three min_three max_four min_four
set_option linter.unusedVariables false
set_option linter.unusedSimpArgs false
def foretellref_FirstCode.l0:Nat → List Int → Int → List (S86) → List (S93) → Option (Int × Int)
 | 0,_,_,_,_=>none
 | k + 1,x4,x5,x381000,x381001=>if x5 < (x381000.length:Int) then (if 0 ≤ x5 then (if x4.length < 17592186044416 then (foretellref_FirstCode.l0 k (x4 ++ [(rd_T86 x381000 x5).f3]) (wrap64 (x5 + 1)) x381000 x381001) else (none)) else (none)) else ((foretellref_CodeOf.f k x381000 x381001 x4).bind fun bt385=>(some (bt385.1,bt385.2)))
def foretellref_FirstCode.f (k:Nat) (l0_0:List (S86)) (l0_1:List (S93)):Option (Int × Int):=foretellref_FirstCode.l0 k ([]:List Int) 0 l0_0 l0_1
theorem foretellref_FirstCode.mono_l:∀ k,(∀ y0 y1 y2 y3,LeO (foretellref_FirstCode.l0 k y0 y1 y2 y3) (foretellref_FirstCode.l0 (k + 1) y0 y1 y2 y3))
 | 0=>fun _ _ _ _ r h=>by simp [foretellref_FirstCode.l0] at h
 | k + 1=>by
  have ih0:=foretellref_FirstCode.mono_l k
  ·intro y0 y1 y2 y3
   unfold foretellref_FirstCode.l0
   exact qM @foretellref_CodeOf.mono
theorem foretellref_FirstCode.mono:∀ a0 a1 k,LeO (foretellref_FirstCode.f k a0 a1) (foretellref_FirstCode.f (k + 1) a0 a1):=by
 intro a0 a1 k
 have ih0:=foretellref_FirstCode.mono_l k
 unfold foretellref_FirstCode.f
 exact qM @foretellref_CodeOf.mono
set_option maxHeartbeats 8000000 in
set_option maxRecDepth 100000 in
theorem foretellref_FirstCode.calls (k:Nat) (A0_0:Option Addr) (c0_0:Nat) (l0_0:List (S86)) (A0_1:Option Addr) (c0_1:Nat) (l0_1:List (S93)) (r1:Int) (r2:Int) (w:World) (hr0_0:Kd.C k86 w A0_0 l0_0.length l0_0) (hc0_0:l0_0.length ≤ c0_0) (hr0_1:Kd.C k93 w A0_1 l0_1.length l0_1) (hc0_1:l0_1.length ≤ c0_1) (h:foretellref_FirstCode.f k l0_0 l0_1 = some (r1,r2)) :
  Calls Tryd.prog 36 #[.agg #[.slice A0_0 l0_0.length c0_0,.slice A0_1 l0_1.length c0_1]] w fun e w'=>e = .returned (.tuple #[.int .i64 r1,.int .i64 r2])∧Below w.heap.size w w':=by
 have hu44:=Tryd.underlying44
 have HR0_0:=zA hr0_0
 have HC0_0:=zA hc0_0
 clear hr0_0 hc0_0
 have HR0_1:=zA hr0_1
 have HC0_1:=zA hc0_1
 clear hr0_1 hc0_1
 have HB:=zA (Below.refl w.heap.size w)
 have H:(foretellref_FirstCode.l0 k ([]:List Int) 0 l0_0 l0_1) = some (r1,r2):=h
 clear h
 have H':=zA H
 clear H
 go_enter Tryd.func36,Tryd.ntmps36
 go_wp2_with (first|((with_reducible refine zV (N:=1) rfl ?_);refine bq 1 (cs:=#[.slice A0_0 l0_0.length c0_0,.slice A0_1 l0_1.length c0_1]) (t:=44) ?_;intro gb380 hg w2 hbox hb;have BK380:=zA (hbox);have GW380:=zA (qg hg);have GE380:=zA (qg hg);replace HB:=zA (zH qb hb);clear hb hbox hg))
 go_loopg [4,5] k (fun kq v4 v5 w'=>∃ (x4_1:List Int) (x5_1:Int),v5 = .int .i64 x5_1∧Aside0 (foretellref_FirstCode.l0 kq x4_1 x5_1 l0_0 l0_1 = some (r1,r2))∧Aside0 (kq ≤ k)∧Aside0 (Kd.R (Kd.int .i64) 3 w' w.heap.size (fun _=>True) v4 x4_1)∧Aside0 (w'.heap[gb380]? = some (.cells #[(.slice A0_0 l0_0.length c0_0),(.slice A0_1 l0_1.length c0_1)] 44 (0,0)))∧Aside0 (Below w.heap.size w w'))
 case atStart=>exact ⟨(([]:List Int)),(0),qr,H',⟨Nat.le_refl _⟩,⟨ql⟩,⟨qk BK380⟩,⟨qb⟩⟩
 case round =>
  clear H'
  try clear p2
  obtain ⟨x4_1,x5_1,rfl,HA,HK1,HO_4,BK380,HB⟩:=hrel
  cases gk with
  | zero=>exact absurd HA.out (by simp [foretellref_FirstCode.l0])
  | succ k1 =>
   have H:=HA.out
   clear HA
   simp only [foretellref_FirstCode.l0] at H
   rcases qj H with ⟨c3b0,H⟩|⟨c3b0,H⟩
   ·rcases qj H with ⟨c4b0,H⟩|⟨c4,H⟩
    ·by_cases c5:x4_1.length < 17592186044416
     ·rw [if_pos c5] at H
      have LMc5:=zA c5
      clear c5
      obtain ⟨y382,hy382⟩:∃ y_:List Int,y_ = (x4_1 ++ [(rd_T86 l0_0 x5_1).f3]):=⟨_,rfl⟩
      replace H:(foretellref_FirstCode.l0 k1 y382 (wrap64 (x5_1 + 1)) l0_0 l0_1) = some (r1,r2):=by first|(rw [hy382];with_reducible exact H)|(have H2_:=(Option.bind_some _ _).symm.trans H;rw [hy382];with_reducible exact H2_)|(have H2_:=(Option.bind_some _ _).symm.trans H;with_reducible exact H2_)|with_reducible exact H|(rw [hy382];exact H)|exact H
      have Ny382:=zA hy382
      clear hy382
      have H':=zA H
      clear H
      have hcz6_0:=qx BK380 0
      have hcz6_1:=qx BK380 1
      have hfz6_0:=zJ BK380.out 0
      have hfz6_1:=zJ BK380.out 1
      have p381:0 ≤ (x5_1:Int):=qd
      have q381:x5_1 < (l0_0.length:Int):=qd
      obtain ⟨ad381,e381,hx381_0,hx381_1,hx381_2,hx381_3⟩:=at_T86 HR0_0.out x5_1 p381 q381
      cases e381
      replace hx381_0:=qy HB hx381_0
      replace hx381_1:=qy HB hx381_1
      replace hx381_2:=qy HB hx381_2
      replace hx381_3:=qy HB hx381_3
      replace p381:=eq_true p381
      replace q381:=eq_true q381
      go_wp2_with (first|((with_reducible refine gate_builtin (b:=.append) (xs:=#[.tmp 15,.tmp 22]) rfl ?_);at_builtin;refine Kd.R_append (Kd.int .i64) (w0:=w) w.heap.size rfl (.tmp 15) (.tmp 22) 37 3 (.int .i64 0) 8 rfl Tryd.underlying37 info3 rfl (by decide) (by omega) u4 x4_1 ((rd_T86 l0_0 x5_1).f3) [.int .i64 ((rd_T86 l0_0 x5_1).f3)] (fun _=>True) (fun _=>False) rfl rfl rfl (fun _ hk=>hk.elim) (fun _ _=>trivial) (qR HO_4) qb qs (qo LMc5) ?_;intro v383 w7 ho hb hg hat;rw [← Ny382.out] at ho;replace BK380:=zA (blk_grown (g:=gb380) (o:=.cells #[.slice (some ad381) l0_0.length c0_0,.slice A0_1 l0_1.length c0_1] 44 (0,0)) (qk BK380) hg (Kd.R_ne HO_4.out BK380.out (by decide)));replace HB:=zA (hb);have HO384:=zA (ho);clear HO_4;clear ho hb hg hat))
      go_roundg k1
      case measure=>have:=HK1.out;omega
      case rel=>exact ⟨(y382),(wrap64 (x5_1 + 1)),qr,H',⟨qo HK1⟩,⟨qR HO384⟩,⟨qk BK380⟩,⟨qb⟩⟩
     ·rw [if_neg c5] at H
      exact absurd H (by simp)
    ·exact absurd H (by simp)
   ·replace H:=zb.mp H
    obtain ⟨⟨t385,t386⟩,A80,H⟩:=H
    replace H:(some (t385,t386)) = some (r1,r2):=H
    have A8:=zA A80
    clear A80
    simp only [Option.some.injEq,Prod.mk.injEq] at H
    obtain ⟨rfl,rfl⟩:=H
    have hcz9_0:=qx BK380 0
    have hcz9_1:=qx BK380 1
    have hfz9_0:=zJ BK380.out 0
    have hfz9_1:=zJ BK380.out 1
    obtain ⟨Ao10,co10,eo10⟩:=Kd.R_slice HO_4.out
    subst eo10
    go_wp2_with (first|((with_reducible refine zU (f:=58) rfl ?_);refine gL (some 27) Tryd.func58 #[.agg #[.slice A0_0 l0_0.length c0_0,.slice A0_1 l0_1.length c0_1],.slice Ao10 x4_1.length co10] ?_;(with_reducible refine (foretellref_CodeOf.calls k1 _ _ l0_0 _ _ l0_1 _ _ x4_1 t385 t386 _ (qc HR0_0) HC0_0.out (qc HR0_1) HC0_1.out (qu (Kd.R_reads' HO_4.out).2.2) ((Kd.R_reads' HO_4.out).2.1) A8.out).mono ?_);rintro e w11 ⟨rfl,hb⟩;refine ⟨_,rfl,?_⟩;replace HO_4:=zA (Kd.R_below (qR HO_4) hb);replace BK380:=qK BK380 hb;replace HB:=zA (zH qb hb);clear hb))
    go_ret2
    exact ⟨qe,qb⟩
def foretellref_StateCount.f (k:Nat) (l0_0:List (S86)) (l0_1:List (S93)):Option (Int × Int):=(foretellref_ModelFault.f k l0_0 l0_1).bind fun t388=>(if t388 = 0 then ((foretellref_behindVar.f k l0_0 l0_1 (-1)).bind fun t389=>(some (t389,0))) else (some (0,t388)))
theorem foretellref_StateCount.mono:∀ a0 a1 k,LeO (foretellref_StateCount.f k a0 a1) (foretellref_StateCount.f (k + 1) a0 a1):=by
 intro a0 a1 k
 unfold foretellref_StateCount.f
 exact qM (And.intro @foretellref_ModelFault.mono @foretellref_behindVar.mono)
set_option maxHeartbeats 8000000 in
set_option maxRecDepth 100000 in
theorem foretellref_StateCount.calls (k:Nat) (A0_0:Option Addr) (c0_0:Nat) (l0_0:List (S86)) (A0_1:Option Addr) (c0_1:Nat) (l0_1:List (S93)) (r1:Int) (r2:Int) (w:World) (hr0_0:Kd.C k86 w A0_0 l0_0.length l0_0) (hc0_0:l0_0.length ≤ c0_0) (hr0_1:Kd.C k93 w A0_1 l0_1.length l0_1) (hc0_1:l0_1.length ≤ c0_1) (h:foretellref_StateCount.f k l0_0 l0_1 = some (r1,r2)) :
  Calls Tryd.prog 88 #[.agg #[.slice A0_0 l0_0.length c0_0,.slice A0_1 l0_1.length c0_1]] w fun e w'=>e = .returned (.tuple #[.int .i64 r1,.int .i64 r2])∧Below w.heap.size w w':=by
 have hu44:=Tryd.underlying44
 have HR0_0:=zA hr0_0
 have HC0_0:=zA hc0_0
 clear hr0_0 hc0_0
 have HR0_1:=zA hr0_1
 have HC0_1:=zA hc0_1
 clear hr0_1 hc0_1
 have HB:=zA (Below.refl w.heap.size w)
 have H:((foretellref_ModelFault.f k l0_0 l0_1).bind fun t388=>(if t388 = 0 then ((foretellref_behindVar.f k l0_0 l0_1 (-1)).bind fun t389=>(some (t389,0))) else (some (0,t388)))) = some (r1,r2):=h
 clear h
 replace H:=zb.mp H
 obtain ⟨t388,A20,H⟩:=H
 replace H:(if t388 = 0 then ((foretellref_behindVar.f k l0_0 l0_1 (-1)).bind fun t389=>(some (t389,0))) else (some (0,t388))) = some (r1,r2):=H
 have A2:=zA A20
 clear A20
 by_cases c3:t388 = 0
 ·rw [if_pos c3] at H
  have c3b0:(t388 == 0) = true:=beq_iff_eq.mpr c3
  have c3b1:(t388 != 0) = false:=bne_eq_false_iff_eq.mpr c3
  clear c3
  replace H:=zb.mp H
  obtain ⟨t389,A40,H⟩:=H
  replace H:(some (t389,0)) = some (r1,r2):=H
  have A4:=zA A40
  clear A40
  simp only [Option.some.injEq,Prod.mk.injEq] at H
  obtain ⟨rfl,rfl⟩:=H
  go_enter Tryd.func88,Tryd.ntmps88
  go_wp2_with (first|((with_reducible refine zV (N:=1) rfl ?_);refine bq 1 (cs:=#[.slice A0_0 l0_0.length c0_0,.slice A0_1 l0_1.length c0_1]) (t:=44) ?_;intro gb387 hg w5 hbox hb;have BK387:=zA (hbox);have GW387:=zA (qg hg);have GE387:=zA (qg hg);replace HB:=zA (zH qb hb);clear hb hbox hg;have hcz6_0:=qx BK387 0;have hcz6_1:=qx BK387 1;have hfz6_0:=zJ BK387.out 0;have hfz6_1:=zJ BK387.out 1)|((with_reducible refine zU (f:=85) rfl ?_);refine gL (some 6) Tryd.func85 #[.agg #[.slice A0_0 l0_0.length c0_0,.slice A0_1 l0_1.length c0_1]] ?_;(with_reducible refine (foretellref_ModelFault.calls k _ _ l0_0 _ _ l0_1 t388 _ (qc HR0_0) HC0_0.out (qc HR0_1) HC0_1.out A2.out).mono ?_);rintro e w7 ⟨rfl,hb⟩;refine ⟨_,rfl,?_⟩;replace BK387:=qK BK387 hb;replace HB:=zA (zH qb hb);clear hb;have hcz8_0:=qx BK387 0;have hcz8_1:=qx BK387 1;have hfz8_0:=zJ BK387.out 0;have hfz8_1:=zJ BK387.out 1)|((with_reducible refine zU (f:=87) rfl ?_);refine gL (some 11) Tryd.func87 #[.agg #[.slice A0_0 l0_0.length c0_0,.slice A0_1 l0_1.length c0_1],.int .i64 (-1)] ?_;(with_reducible refine (foretellref_behindVar.calls k _ _ l0_0 _ _ l0_1 (-1) t389 _ (qc HR0_0) HC0_0.out (qc HR0_1) HC0_1.out A4.out).mono ?_);rintro e w9 ⟨rfl,hb⟩;refine ⟨_,rfl,?_⟩;replace BK387:=qK BK387 hb;replace HB:=zA (zH qb hb);clear hb))
  go_ret2
  exact ⟨qe,qb⟩
 ·rw [if_neg c3] at H
  have c3b0:(t388 == 0) = false:=beq_eq_false_iff_ne.mpr c3
  have c3b1:(t388 != 0) = true:=bne_iff_ne.mpr c3
  simp only [Option.some.injEq,Prod.mk.injEq] at H
  obtain ⟨rfl,rfl⟩:=H
  go_enter Tryd.func88,Tryd.ntmps88
  go_wp2_with (first|((with_reducible refine zV (N:=1) rfl ?_);refine bq 1 (cs:=#[.slice A0_0 l0_0.length c0_0,.slice A0_1 l0_1.length c0_1]) (t:=44) ?_;intro gb387 hg w10 hbox hb;have BK387:=zA (hbox);have GW387:=zA (qg hg);have GE387:=zA (qg hg);replace HB:=zA (zH qb hb);clear hb hbox hg;have hcz11_0:=qx BK387 0;have hcz11_1:=qx BK387 1;have hfz11_0:=zJ BK387.out 0;have hfz11_1:=zJ BK387.out 1)|((with_reducible refine zU (f:=85) rfl ?_);refine gL (some 6) Tryd.func85 #[.agg #[.slice A0_0 l0_0.length c0_0,.slice A0_1 l0_1.length c0_1]] ?_;(with_reducible refine (foretellref_ModelFault.calls k _ _ l0_0 _ _ l0_1 t388 _ (qc HR0_0) HC0_0.out (qc HR0_1) HC0_1.out A2.out).mono ?_);rintro e w12 ⟨rfl,hb⟩;refine ⟨_,rfl,?_⟩;replace BK387:=qK BK387 hb;replace HB:=zA (zH qb hb);clear hb))
  go_ret2
  exact ⟨qe,qb⟩
end Go.Proofs.YthffpjkkmkjplaaDoor.S
namespace Go.Proofs.YthffpjkkmkjplaaDoor.S
open Go.Proofs.YthffpjkkmkjplaaDoor.Al
open Go.World renaming block_lt_of_cell? → zB
open Option renaming bind_eq_some_iff → zb
open List renaming setIfInBounds_toArray → zX, set_cons_zero → zY, set_cons_succ → zZ
open Go.Proofs.YthffpjkkmkjplaaDoorW.PrintWords renaming below_drew1 → zE, below_step → zH, blk_cell → zI, blk_frozen → zJ, blk_alloc → zK, blk_drew → zM, gate_callee → zU, gate_dst → zV
open Go.Proofs.YthffpjkkmkjplaaDoor.Sq
open Go.RowKit Go.Proofs.YthffpjkkmkjplaaDoorW.PrintWords Go.Proofs.YthffpjkkmkjplaaDoorW.PrintLast Go.Proofs.YthffpjkkmkjplaaDoorW.PrintMore
attribute [local go_sem] max2_int min2_int max_two min_two max_three min_three max_four min_four
set_option linter.unusedVariables false
set_option linter.unusedSimpArgs false
def foretellref_ValuesOf.l0:Nat → Int → List Int → Int → List (S86) → List (S93) → Option (List Int × Int)
 | 0,_,_,_,_,_=>none
 | k + 1,x1,x8,x9,x391000,x391001=>if x9 < (x391000.length:Int) then ((foretellref_behindVar.f k x391000 x391001 x9).bind fun t394=>(if 0 ≤ x9 then (if t394 = 0 then (none) else (if x8.length < 17592186044416 then (foretellref_ValuesOf.l0 k (Int.tmod x1 t394) (x8 ++ [wrap64 (((rd_T86 x391000 x9).f1) + (wrap64 (Int.tdiv x1 t394)))]) (wrap64 (x9 + 1)) x391000 x391001) else (none))) else (none))) else (some (x8,0))
def foretellref_ValuesOf.f (k:Nat) (l0_0:List (S86)) (l0_1:List (S93)) (a1:Int):Option (List Int × Int):=(foretellref_StateCount.f k l0_0 l0_1).bind fun bt391=>(if bt391.2 = 0 then ((foretellref_In.f a1 0 (wrap64 (bt391.1 - 1))).bind fun t393=>(if t393 = true then (foretellref_ValuesOf.l0 k a1 ([]:List Int) 0 l0_0 l0_1) else (some (([]:List Int),9)))) else (some (([]:List Int),bt391.2)))
theorem foretellref_ValuesOf.mono_l:∀ k,(∀ y0 y1 y2 y3 y4,LeO (foretellref_ValuesOf.l0 k y0 y1 y2 y3 y4) (foretellref_ValuesOf.l0 (k + 1) y0 y1 y2 y3 y4))
 | 0=>fun _ _ _ _ _ r h=>by simp [foretellref_ValuesOf.l0] at h
 | k + 1=>by
  have ih0:=foretellref_ValuesOf.mono_l k
  ·intro y0 y1 y2 y3 y4
   unfold foretellref_ValuesOf.l0
   exact qM (And.intro @foretellref_StateCount.mono @foretellref_behindVar.mono)
theorem foretellref_ValuesOf.mono:∀ a0 a1 a2 k,LeO (foretellref_ValuesOf.f k a0 a1 a2) (foretellref_ValuesOf.f (k + 1) a0 a1 a2):=by
 intro a0 a1 a2 k
 have ih0:=foretellref_ValuesOf.mono_l k
 unfold foretellref_ValuesOf.f
 exact qM (And.intro @foretellref_StateCount.mono @foretellref_behindVar.mono)
def foretellref_ValuesOf.T11:Bool × List (List Nat × List Nat):=(true,[([],[]),([],[]),([1],[1]),([],[]),([2,3],[2,3]),([4],[4]),([5],[5]),([],[]),([],[]),([7,8],[7,8]),([6,9],[6,9]),([10],[10]),([0,11],[0,11]),([12,12,0,1,2,3,4,5,6,7,8,9,10,11,12],[0,12])])
def foretellref_ValuesOf.B11:List Nat:=[0,0,2,0,14,30,62,0,0,384,1022,2046,4095,8191]
theorem foretellref_ValuesOf.tab11:rtab .any (opsOf Tryd.f59 11) = foretellref_ValuesOf.T11:=by kernel_rfl
theorem foretellref_ValuesOf.bits11:waitsOk foretellref_ValuesOf.T11.2 foretellref_ValuesOf.B11 = true:=by kernel_rfl
set_option maxHeartbeats 8000000 in
set_option maxRecDepth 100000 in
theorem foretellref_ValuesOf.calls (k:Nat) (A0_0:Option Addr) (c0_0:Nat) (l0_0:List (S86)) (A0_1:Option Addr) (c0_1:Nat) (l0_1:List (S93)) (a1:Int) (r1:List Int) (r2:Int) (w:World) (hr0_0:Kd.C k86 w A0_0 l0_0.length l0_0) (hc0_0:l0_0.length ≤ c0_0) (hr0_1:Kd.C k93 w A0_1 l0_1.length l0_1) (hc0_1:l0_1.length ≤ c0_1) (h:foretellref_ValuesOf.f k l0_0 l0_1 a1 = some (r1,r2)) :
  Calls Tryd.prog 59 #[.agg #[.slice A0_0 l0_0.length c0_0,.slice A0_1 l0_1.length c0_1],.int .i64 a1] w fun e w'=>∃ v0_:Value,e = .returned (.tuple #[v0_,.int .i64 r2])∧Kd.R (Kd.int .i64) 3 w' w.heap.size (fun _=>True) v0_ r1∧Below w.heap.size w w':=by
 have hu44:=Tryd.underlying44
 have HR0_0:=zA hr0_0
 have HC0_0:=zA hc0_0
 clear hr0_0 hc0_0
 have HR0_1:=zA hr0_1
 have HC0_1:=zA hc0_1
 clear hr0_1 hc0_1
 have HB:=zA (Below.refl w.heap.size w)
 have H:((foretellref_StateCount.f k l0_0 l0_1).bind fun bt391=>(if bt391.2 = 0 then ((foretellref_In.f a1 0 (wrap64 (bt391.1 - 1))).bind fun t393=>(if t393 = true then (foretellref_ValuesOf.l0 k a1 ([]:List Int) 0 l0_0 l0_1) else (some (([]:List Int),9)))) else (some (([]:List Int),bt391.2)))) = some (r1,r2):=h
 clear h
 replace H:=zb.mp H
 obtain ⟨⟨t391,t392⟩,A30,H⟩:=H
 replace H:(if t392 = 0 then ((foretellref_In.f a1 0 (wrap64 (t391 - 1))).bind fun t393=>(if t393 = true then (foretellref_ValuesOf.l0 k a1 ([]:List Int) 0 l0_0 l0_1) else (some (([]:List Int),9)))) else (some (([]:List Int),t392))) = some (r1,r2):=H
 have A3:=zA A30
 clear A30
 by_cases c4:t392 = 0
 ·rw [if_pos c4] at H
  have c4b0:(t392 == 0) = true:=beq_iff_eq.mpr c4
  have c4b1:(t392 != 0) = false:=bne_eq_false_iff_eq.mpr c4
  clear c4
  replace H:=zb.mp H
  obtain ⟨t393,A50,H⟩:=H
  replace H:(if t393 = true then (foretellref_ValuesOf.l0 k a1 ([]:List Int) 0 l0_0 l0_1) else (some (([]:List Int),9))) = some (r1,r2):=H
  have A5:=zA A50
  clear A50
  by_cases c6:t393 = true
  ·subst c6
   have H1:(foretellref_ValuesOf.l0 k a1 ([]:List Int) 0 l0_0 l0_1) = some (r1,r2):=by rw [if_pos rfl] at H;exact H
   clear H
   have H:=H1
   clear H1
   have H':=zA H
   clear H
   go_enter Tryd.func59,Tryd.ntmps59
   go_wp2_with (first|((with_reducible refine zV (N:=2) rfl ?_);refine bq 2 (cs:=#[.slice A0_0 l0_0.length c0_0,.slice A0_1 l0_1.length c0_1]) (t:=44) ?_;intro gb390 hg w7 hbox hb;have BK390:=zA (hbox);have GW390:=zA (qg hg);have GE390:=zA (qg hg);replace HB:=zA (zH qb hb);clear hb hbox hg;have hcz8_0:=qx BK390 0;have hcz8_1:=qx BK390 1;have hfz8_0:=zJ BK390.out 0;have hfz8_1:=zJ BK390.out 1)|((with_reducible refine zU (f:=88) rfl ?_);refine gL (some 13) Tryd.func88 #[.agg #[.slice A0_0 l0_0.length c0_0,.slice A0_1 l0_1.length c0_1]] ?_;(with_reducible refine (foretellref_StateCount.calls k _ _ l0_0 _ _ l0_1 t391 t392 _ (qc HR0_0) HC0_0.out (qc HR0_1) HC0_1.out A3.out).mono ?_);rintro e w9 ⟨rfl,hb⟩;refine ⟨_,rfl,?_⟩;replace BK390:=qK BK390 hb;replace HB:=zA (zH qb hb);clear hb)|((with_reducible refine zU (f:=50) rfl ?_);refine gL (some 22) Tryd.func50 #[.int .i64 a1,.int .i64 0,.int .i64 (wrap64 (t391 - 1))] ?_;(with_reducible refine (foretellref_In.calls a1 0 (wrap64 (t391 - 1)) true _ A5.out).mono ?_);rintro e w' ⟨rfl,⟨nd,rfl⟩⟩;refine ⟨_,rfl,?_⟩))
   go_loopg [1,8,9] k (fun kq v1 v8 v9 w'=>∃ (x1_1:Int) (x8_1:List Int) (x9_1:Int),v1 = .int .i64 x1_1∧v9 = .int .i64 x9_1∧Aside0 (foretellref_ValuesOf.l0 kq x1_1 x8_1 x9_1 l0_0 l0_1 = some (r1,r2))∧Aside0 (kq ≤ k)∧Aside0 (Kd.R (Kd.int .i64) 3 w' w.heap.size (fun _=>True) v8 x8_1)∧Aside0 (w'.heap[gb390]? = some (.cells #[(.slice A0_0 l0_0.length c0_0),(.slice A0_1 l0_1.length c0_1)] 44 (0,0)))∧Aside0 (Below w.heap.size w w'))
   case atStart=>exact ⟨(a1),(([]:List Int)),(0),qr,qr,H',⟨Nat.le_refl _⟩,⟨ql⟩,⟨qk BK390⟩,⟨qb⟩⟩
   case round =>
    clear H'
    try clear p2
    try clear c4
    try clear c4b0
    try clear c4b1
    try clear c5
    try clear c6
    try clear p6
    try clear c8
    try clear hcz8_0
    try clear hcz8_1
    try clear hfz8_0
    try clear hfz8_1
    obtain ⟨x1_1,x8_1,x9_1,rfl,rfl,HA,HK1,HO_8,BK390,HB⟩:=hrel
    cases gk with
    | zero=>exact absurd HA.out (by simp [foretellref_ValuesOf.l0])
    | succ k1 =>
     have H:=HA.out
     clear HA
     simp only [foretellref_ValuesOf.l0] at H
     rcases qj H with ⟨c10b0,H⟩|⟨c10b0,H⟩
     ·replace H:=zb.mp H
      obtain ⟨t394,A110,H⟩:=H
      replace H:(if 0 ≤ x9_1 then (if t394 = 0 then (none) else (if x8_1.length < 17592186044416 then (foretellref_ValuesOf.l0 k1 (Int.tmod x1_1 t394) (x8_1 ++ [wrap64 (((rd_T86 l0_0 x9_1).f1) + (wrap64 (Int.tdiv x1_1 t394)))]) (wrap64 (x9_1 + 1)) l0_0 l0_1) else (none))) else (none)) = some (r1,r2):=H
      have A11:=zA A110
      clear A110
      rcases qj H with ⟨c12b0,H⟩|⟨c12,H⟩
      ·by_cases c13:t394 = 0
       ·rw [if_pos c13] at H
        exact absurd H (by simp)
       ·rw [if_neg c13] at H
        have c13b0:(t394 == 0) = false:=beq_eq_false_iff_ne.mpr c13
        have c13b1:(t394 != 0) = true:=bne_iff_ne.mpr c13
        by_cases c14:x8_1.length < 17592186044416
        ·rw [if_pos c14] at H
         have LMc14:=zA c14
         clear c14
         obtain ⟨y396,hy396⟩:∃ y_:List Int,y_ = (x8_1 ++ [wrap64 (((rd_T86 l0_0 x9_1).f1) + (wrap64 (Int.tdiv x1_1 t394)))]):=⟨_,rfl⟩
         replace H:(foretellref_ValuesOf.l0 k1 (Int.tmod x1_1 t394) y396 (wrap64 (x9_1 + 1)) l0_0 l0_1) = some (r1,r2):=by first|(rw [hy396];with_reducible exact H)|(have H2_:=(Option.bind_some _ _).symm.trans H;rw [hy396];with_reducible exact H2_)|(have H2_:=(Option.bind_some _ _).symm.trans H;with_reducible exact H2_)|with_reducible exact H|(rw [hy396];exact H)|exact H
         have Ny396:=zA hy396
         clear hy396
         have H':=zA H
         clear H
         have hcz15_0:=qx BK390 0
         have hcz15_1:=qx BK390 1
         have hfz15_0:=zJ BK390.out 0
         have hfz15_1:=zJ BK390.out 1
         try go_wp2_with (first|((with_reducible refine zU (f:=87) rfl ?_);refine gL (some 33) Tryd.func87 #[.agg #[.slice A0_0 l0_0.length c0_0,.slice A0_1 l0_1.length c0_1],.int .i64 x9_1] ?_;(with_reducible refine (foretellref_behindVar.calls k1 _ _ l0_0 _ _ l0_1 x9_1 t394 _ (qc HR0_0) HC0_0.out (qc HR0_1) HC0_1.out A11.out).mono ?_);rintro e w16 ⟨rfl,hb⟩;refine ⟨_,rfl,?_⟩;replace HO_8:=zA (Kd.R_below (qR HO_8) hb);replace BK390:=qK BK390 hb;replace HB:=zA (zH qb hb);clear hb))
         replace HO_8:=zA (Kd.R_drew HO_8.out)
         replace BK390:=zA (zM BK390.out)
         replace HB:=zA (zE HB.out)
         have p395:0 ≤ (x9_1:Int):=qd
         have q395:x9_1 < (l0_0.length:Int):=qd
         obtain ⟨ad395,e395,hx395_0,hx395_1,hx395_2,hx395_3⟩:=at_T86 HR0_0.out x9_1 p395 q395
         have hw395_3:=hx395_3
         have hw395_2:=hx395_2
         have hw395_1:=hx395_1
         have hw395_0:=hx395_0
         cases e395
         replace hx395_0:=qy HB hx395_0
         replace hx395_1:=qy HB hx395_1
         replace hx395_2:=qy HB hx395_2
         replace hx395_3:=qy HB hx395_3
         replace p395:=eq_true p395
         replace q395:=eq_true q395
         refine start_ (n:=14) (S:=fun w'=>w'.cell? ⟨gb390,0,none⟩ = some (.slice (some ad395) l0_0.length c0_0)∧w'.cell? ⟨gb390,1,none⟩ = some (.slice A0_1 l0_1.length c0_1)∧w'.cell? (ad395.add ((x9_1).toNat * 4)) = some (.string ((rd_T86 l0_0 x9_1).f0))∧w'.cell? ⟨(ad395.add ((x9_1).toNat * 4)).block,(ad395.add ((x9_1).toNat * 4)).off + 1,none⟩ = some (.int .i64 ((rd_T86 l0_0 x9_1).f1))∧w'.cell? ⟨(ad395.add ((x9_1).toNat * 4)).block,(ad395.add ((x9_1).toNat * 4)).off + 2,none⟩ = some (.int .i64 ((rd_T86 l0_0 x9_1).f2))∧w'.cell? ⟨(ad395.add ((x9_1).toNat * 4)).block,(ad395.add ((x9_1).toNat * 4)).off + 3,none⟩ = some (.int .i64 ((rd_T86 l0_0 x9_1).f3))) (ds:=[]) #[false,false,false,false,false,false,false,false,false,false,false,false,false,false] (by kernel_rfl) rfl rfl ⟨(zI BK390.out 0).trans rfl,(zI BK390.out 1).trans rfl,(qy HB hw395_0 :),(qy HB hw395_1 :),(qy HB hw395_2 :),(qy HB hw395_3 :)⟩ (fun hHeld=>?_);refine with_tabW foretellref_ValuesOf.tab11 foretellref_ValuesOf.bits11 (fun HT_ HW_=>?_)
         generalize w16.drew = w17 at HO_8 BK390 HB hx395_0 hx395_1 hx395_2 hx395_3 hHeld ⊢
         refine pq 0 (some 34) HT_ ?_
         refine pq 1 (some 35) HT_ ?_
         refine pq 3 (some 37) HT_ ?_
         refine pq 7 (some 41) HT_ ?_
         refine pq 8 (some 42) HT_ ?_
         refine pq 9 (some 43) HT_ ?_
         refine tq 2 (some 36) HT_ HW_ hHeld ?_
         refine pq 4 (some 38) HT_ ?_
         refine pq 5 (some 39) HT_ ?_
         refine tq 6 (some 40) HT_ HW_ hHeld ?_
         refine pq 10 (some 44) HT_ ?_
         refine oq 11 (some 45) HT_ (fun K hK=>?_)
         refine value_ (w1:=?_) (v:=?_) (by rfl) rfl ?_ ?_
         rotate_left 2
         ·go_simp
          constructor
          ·rfl
          ·rfl
         refine hK.out _ _ ⟨(zI (zK BK390.out _) 0).trans rfl,(zI (zK BK390.out _) 1).trans rfl,(World.cell?_alloc_lt _ _ _ (zB _ _ ((qy HB hw395_0 :)))).trans ((qy HB hw395_0 :)),(World.cell?_alloc_lt _ _ _ (zB _ _ ((qy HB hw395_1 :)))).trans ((qy HB hw395_1 :)),(World.cell?_alloc_lt _ _ _ (zB _ _ ((qy HB hw395_2 :)))).trans ((qy HB hw395_2 :)),(World.cell?_alloc_lt _ _ _ (zB _ _ ((qy HB hw395_3 :)))).trans ((qy HB hw395_3 :))⟩ (fun hHeld=>?_)
         clear hK K
         refine norm_ (a':=?_) ?_ ?_
         rotate_left
         ·show Act.put _ (some 45) _ = _
          simp only [Act.put,zX,zY,zZ,i64_w,i32_w]
          rfl
         refine oq 12 (some 46) HT_ (fun K hK=>?_)
         refine Kd.R_append_step (Kd.int .i64) (w0:=w) w.heap.size (by rfl) (.tmp 34) (.tmp 45) 37 3 (.int .i64 0) 8 rfl Tryd.underlying37 info3 rfl (by decide) (by omega) u8 x8_1 (wrap64 (((rd_T86 l0_0 x9_1).f1) + (wrap64 (Int.tdiv x1_1 t394)))) [.int .i64 (wrap64 (((rd_T86 l0_0 x9_1).f1) + (wrap64 (Int.tdiv x1_1 t394))))] (fun _=>True) (fun _=>False) rfl rfl ?aP (fun _ hk=>hk.elim) ?aF ?aO ?aB ?aS ?aL ?_
         (case aP=>exact rfl)
         (case aB=>exact qb)
         (case aF=>exact (fun _ _=>trivial))
         (case aO=>exact (qR HO_8))
         (case aS=>exact qs)
         (case aL=>have:=LMc14.out;omega)
         intro v397 w18 ho hb hg hat
         rw [← Ny396.out] at ho
         replace BK390:=zA (blk_grown (g:=gb390) (o:=.cells #[.slice (some ad395) l0_0.length c0_0,.slice A0_1 l0_1.length c0_1] 44 (0,0)) (qk BK390) hg (Kd.R_ne HO_8.out BK390.out (by decide)))
         replace HB:=zA (hb)
         have HO398:=zA (ho)
         clear HO_8
         clear ho hb hg hat
         refine hK.out _ _ ⟨(zI BK390.out 0).trans rfl,(zI BK390.out 1).trans rfl,(qy HB hw395_0 :),(qy HB hw395_1 :),(qy HB hw395_2 :),(qy HB hw395_3 :)⟩ (fun hHeld=>?_)
         clear hK K
         refine norm_ (a':=?_) ?_ ?_
         rotate_left
         ·show Act.put _ (some 46) _ = _
          simp only [Act.put,zX,zY,zZ,i64_w,i32_w]
          rfl
         refine pq 13 (some 8) HT_ ?_
         refine done_ (done_of HT_.out (by kernel_rfl)) ?_
         try go_wp2
         go_roundg k1
         case measure=>have:=HK1.out;omega
         case rel=>exact ⟨(Int.tmod x1_1 t394),(y396),(wrap64 (x9_1 + 1)),qr,qr,H',⟨qo HK1⟩,⟨qR HO398⟩,⟨qk BK390⟩,⟨qb⟩⟩
        ·rw [if_neg c14] at H
         exact absurd H (by simp)
      ·exact absurd H (by simp)
     ·simp only [Option.some.injEq,Prod.mk.injEq] at H
      obtain ⟨rfl,rfl⟩:=H
      have hcz19_0:=qx BK390 0
      have hcz19_1:=qx BK390 1
      have hfz19_0:=zJ BK390.out 0
      have hfz19_1:=zJ BK390.out 1
      go_wp2
      go_ret2
      exact ⟨_,qe,qR HO_8,qb⟩
  ·replace c6:=Bool.eq_false_iff.mpr c6
   subst c6
   have H1:(some (([]:List Int),9)) = some (r1,r2):=by rw [if_neg (show ¬ (false = true) by decide)] at H;exact H
   clear H
   have H:=H1
   clear H1
   simp only [Option.some.injEq,Prod.mk.injEq] at H
   obtain ⟨rfl,rfl⟩:=H
   go_enter Tryd.func59,Tryd.ntmps59
   go_wp2_with (first|((with_reducible refine zV (N:=2) rfl ?_);refine bq 2 (cs:=#[.slice A0_0 l0_0.length c0_0,.slice A0_1 l0_1.length c0_1]) (t:=44) ?_;intro gb390 hg w20 hbox hb;have BK390:=zA (hbox);have GW390:=zA (qg hg);have GE390:=zA (qg hg);replace HB:=zA (zH qb hb);clear hb hbox hg;have hcz21_0:=qx BK390 0;have hcz21_1:=qx BK390 1;have hfz21_0:=zJ BK390.out 0;have hfz21_1:=zJ BK390.out 1)|((with_reducible refine zU (f:=88) rfl ?_);refine gL (some 13) Tryd.func88 #[.agg #[.slice A0_0 l0_0.length c0_0,.slice A0_1 l0_1.length c0_1]] ?_;(with_reducible refine (foretellref_StateCount.calls k _ _ l0_0 _ _ l0_1 t391 t392 _ (qc HR0_0) HC0_0.out (qc HR0_1) HC0_1.out A3.out).mono ?_);rintro e w22 ⟨rfl,hb⟩;refine ⟨_,rfl,?_⟩;replace BK390:=qK BK390 hb;replace HB:=zA (zH qb hb);clear hb)|((with_reducible refine zU (f:=50) rfl ?_);refine gL (some 22) Tryd.func50 #[.int .i64 a1,.int .i64 0,.int .i64 (wrap64 (t391 - 1))] ?_;(with_reducible refine (foretellref_In.calls a1 0 (wrap64 (t391 - 1)) false _ A5.out).mono ?_);rintro e w' ⟨rfl,⟨nd,rfl⟩⟩;refine ⟨_,rfl,?_⟩))
   go_ret2
   exact ⟨_,qe,ql,qb⟩
 ·rw [if_neg c4] at H
  have c4b0:(t392 == 0) = false:=beq_eq_false_iff_ne.mpr c4
  have c4b1:(t392 != 0) = true:=bne_iff_ne.mpr c4
  simp only [Option.some.injEq,Prod.mk.injEq] at H
  obtain ⟨rfl,rfl⟩:=H
  go_enter Tryd.func59,Tryd.ntmps59
  go_wp2_with (first|((with_reducible refine zV (N:=2) rfl ?_);refine bq 2 (cs:=#[.slice A0_0 l0_0.length c0_0,.slice A0_1 l0_1.length c0_1]) (t:=44) ?_;intro gb390 hg w23 hbox hb;have BK390:=zA (hbox);have GW390:=zA (qg hg);have GE390:=zA (qg hg);replace HB:=zA (zH qb hb);clear hb hbox hg;have hcz24_0:=qx BK390 0;have hcz24_1:=qx BK390 1;have hfz24_0:=zJ BK390.out 0;have hfz24_1:=zJ BK390.out 1)|((with_reducible refine zU (f:=88) rfl ?_);refine gL (some 13) Tryd.func88 #[.agg #[.slice A0_0 l0_0.length c0_0,.slice A0_1 l0_1.length c0_1]] ?_;(with_reducible refine (foretellref_StateCount.calls k _ _ l0_0 _ _ l0_1 t391 t392 _ (qc HR0_0) HC0_0.out (qc HR0_1) HC0_1.out A3.out).mono ?_);rintro e w25 ⟨rfl,hb⟩;refine ⟨_,rfl,?_⟩;replace BK390:=qK BK390 hb;replace HB:=zA (zH qb hb);clear hb))
  go_ret2
  exact ⟨_,qe,ql,qb⟩
end Go.Proofs.YthffpjkkmkjplaaDoor.S
namespace Go.Proofs.YthffpjkkmkjplaaDoor.S
open Go.Proofs.YthffpjkkmkjplaaDoor.Al
open Option renaming bind_eq_some_iff → zb
open Go.Proofs.YthffpjkkmkjplaaDoorW.PrintWords renaming below_set → zF, below_step → zH, Kd.C_below → zT
open Go.Proofs.YthffpjkkmkjplaaDoor.Sq
open Go.RowKit Go.Proofs.YthffpjkkmkjplaaDoorW.PrintWords Go.Proofs.YthffpjkkmkjplaaDoorW.PrintLast Go.Proofs.YthffpjkkmkjplaaDoorW.PrintMore
attribute [local go_sem] max2_int min2_int max_two min_two max_three min_three max_four min_four
set_option linter.unusedVariables false
set_option linter.unusedSimpArgs false
mutual
def foretellref_worked.l0:Nat → List (S65) → List Int → List (List (S65)) → List Int → Int → Option (Int × Int)
 | 0,_,_,_,_,_=>none
 | k + 1,x0,x1,x6,x8,x9=>if x9 < (x6.length:Int) then (if x8.length < 17592186044416 then (foretellref_worked.l0 k x0 x1 x6 (x8 ++ [0]) (wrap64 (x9 + 1))) else (none)) else (foretellref_worked.l1 k x0 x1 x6 x8 (wrap64 ((x6.length:Int) - 1)))
def foretellref_worked.l1:Nat → List (S65) → List Int → List (List (S65)) → List Int → Int → Option (Int × Int)
 | 0,_,_,_,_,_=>none
 | k + 1,x0,x1,x6,x8,x10=>if x10 ≥ 0 then (if 0 ≤ x10 then (if x10 < (x6.length:Int) then ((foretellref_worked.f k (rd_L4 x6 x10) x1).bind fun bt407=>(if bt407.2 = 0 then (if x10 < (x8.length:Int) then (foretellref_worked.l1 k x0 x1 x6 (x8.set (x10:Int).toNat bt407.1) (wrap64 (x10 - 1))) else (none)) else (some (0,bt407.2)))) else (none)) else (none)) else (if 0 < (x0.length:Int) then (if ((rd_T65 x0 0).f0) = 1 then (foretellref_worked.j2 k ((rd_T65 x0 0).f1) false) else (if ((rd_T65 x0 0).f0) = 2 then (if 0 ≤ ((rd_T65 x0 0).f1) then (if ((rd_T65 x0 0).f1) < (x1.length:Int) then (foretellref_worked.j2 k (rd x1 ((rd_T65 x0 0).f1)) false) else (none)) else (none)) else (if ((rd_T65 x0 0).f0) = 3 then (if 0 < (x8.length:Int) then (if 1 < (x8.length:Int) then (foretellref_worked.j2 k (wrap64 ((rd x8 0) + (rd x8 1))) false) else (none)) else (none)) else (if ((rd_T65 x0 0).f0) = 4 then (if 0 < (x8.length:Int) then (if 1 < (x8.length:Int) then (foretellref_worked.j2 k (wrap64 ((rd x8 0) - (rd x8 1))) false) else (none)) else (none)) else (if ((rd_T65 x0 0).f0) = 5 then (if 0 < (x8.length:Int) then (if 1 < (x8.length:Int) then (foretellref_worked.j2 k (wrap64 ((rd x8 0) * (rd x8 1))) false) else (none)) else (none)) else (if ((rd_T65 x0 0).f0) = 6 then (if 0 < (x8.length:Int) then (if 1 < (x8.length:Int) then (foretellref_worked.j2 k 0 ((rd x8 0) == (rd x8 1))) else (none)) else (none)) else (if ((rd_T65 x0 0).f0) = 7 then (if 0 < (x8.length:Int) then (if 1 < (x8.length:Int) then (foretellref_worked.j2 k 0 (decide ((rd x8 0) < (rd x8 1)))) else (none)) else (none)) else (if ((rd_T65 x0 0).f0) = 8 then (if 0 < (x8.length:Int) then (if (rd x8 0) = 1 then (if 1 < (x8.length:Int) then (foretellref_worked.j2 k 0 ((rd x8 1) == 1)) else (none)) else (foretellref_worked.j2 k 0 false)) else (none)) else (if ((rd_T65 x0 0).f0) = 9 then (if 0 < (x8.length:Int) then (if (rd x8 0) = 1 then (foretellref_worked.j2 k 0 true) else (if 1 < (x8.length:Int) then (foretellref_worked.j2 k 0 ((rd x8 1) == 1)) else (none))) else (none)) else (if ((rd_T65 x0 0).f0) = 10 then (if 0 < (x8.length:Int) then (foretellref_worked.j2 k 0 ((rd x8 0) == 0)) else (none)) else (if ((rd_T65 x0 0).f0) = 11 then (foretellref_worked.j2 k 0 true) else (foretellref_worked.j2 k 0 false)))))))))))) else (none))
def foretellref_worked.j2:Nat → Int → Bool → Option (Int × Int)
 | 0,_,_=>none
 | k + 1,x13,x14=>if x14 = true then ((foretellref_In.f 1 (-1000000) 1000000).bind fun t429=>(if t429 = true then (some (1,0)) else (some (0,8)))) else ((foretellref_In.f x13 (-1000000) 1000000).bind fun t430=>(if t430 = true then (some (x13,0)) else (some (0,8))))
def foretellref_worked.f:Nat → List (S65) → List Int → Option (Int × Int)
 | 0,_,_=>none
 | k + 1,l0,l1=>(foretellref_SplitOf.f k l0).bind fun bt399=>(foretellref_worked.l0 k l0 l1 bt399.1 ([]:List Int) 0)
end
theorem foretellref_worked.mono_l:∀ k,(∀ y0 y1,LeO (foretellref_worked.f k y0 y1) (foretellref_worked.f (k + 1) y0 y1))∧(∀ y0 y1 y2 y3 y4,LeO (foretellref_worked.l0 k y0 y1 y2 y3 y4) (foretellref_worked.l0 (k + 1) y0 y1 y2 y3 y4))∧(∀ y0 y1 y2 y3 y4,LeO (foretellref_worked.l1 k y0 y1 y2 y3 y4) (foretellref_worked.l1 (k + 1) y0 y1 y2 y3 y4))∧(∀ y0 y1,LeO (foretellref_worked.j2 k y0 y1) (foretellref_worked.j2 (k + 1) y0 y1))
 | 0=>⟨fun _ _ r h=>by simp [foretellref_worked.f] at h,fun _ _ _ _ _ r h=>by simp [foretellref_worked.l0] at h,fun _ _ _ _ _ r h=>by simp [foretellref_worked.l1] at h,fun _ _ r h=>by simp [foretellref_worked.j2] at h⟩
 | k + 1=>by
  obtain ⟨ih0,ih1,ih2,ih3⟩:=foretellref_worked.mono_l k
  refine ⟨?_,?_,?_,?_⟩
  ·intro y0 y1
   unfold foretellref_worked.f
   exact qM @foretellref_SplitOf.mono
  ·intro y0 y1 y2 y3 y4
   unfold foretellref_worked.l0
   exact qM @foretellref_SplitOf.mono
  ·intro y0 y1 y2 y3 y4
   unfold foretellref_worked.l1
   exact qM @foretellref_SplitOf.mono
  ·intro y0 y1
   unfold foretellref_worked.j2
   exact qM @foretellref_SplitOf.mono
theorem foretellref_worked.mono:∀ a0 a1 k,LeO (foretellref_worked.f k a0 a1) (foretellref_worked.f (k + 1) a0 a1):=by
 intro a0 a1 k
 obtain ⟨ih0,ih1,ih2,ih3⟩:=foretellref_worked.mono_l k
 exact ih0 a0 a1
set_option maxHeartbeats 8000000 in
set_option maxRecDepth 100000 in
theorem foretellref_worked.calls (k:Nat):∀ (A0:Option Addr) (c0:Nat) (l0:List (S65)) (A1:Option Addr) (c1:Nat) (l1:List Int) (r1:Int) (r2:Int) (w:World) (hr0:Kd.C k65 w A0 l0.length l0) (hc0:l0.length ≤ c0) (hr1:Kd.C (Kd.int .i64) w A1 l1.length l1) (hc1:l1.length ≤ c1) (h:foretellref_worked.f k l0 l1 = some (r1,r2)),
  Calls Tryd.prog 90 #[.slice A0 l0.length c0,.slice A1 l1.length c1] w fun e w'=>e = .returned (.tuple #[.int .i64 r1,.int .i64 r2])∧Below w.heap.size w w':=by
 induction k using Nat.strongRecOn with
 | _ k ih =>
 intro A0 c0 l0 A1 c1 l1 r1 r2 w hr0 hc0 hr1 hc1 h
 cases k with
 | zero=>exact absurd h (by simp [foretellref_worked.f])
 | succ k =>
 simp only [foretellref_worked.f] at h
 have HR0:=zA hr0
 have HC0:=zA hc0
 clear hr0 hc0
 have HR1:=zA hr1
 have HC1:=zA hc1
 clear hr1 hc1
 have HB:=zA (Below.refl w.heap.size w)
 have H:((foretellref_SplitOf.f k l0).bind fun bt399=>(foretellref_worked.l0 k l0 l1 bt399.1 ([]:List Int) 0)) = some (r1,r2):=h
 clear h
 replace H:=zb.mp H
 obtain ⟨⟨t399,t400⟩,A30,H⟩:=H
 replace H:(foretellref_worked.l0 k l0 l1 t399 ([]:List Int) 0) = some (r1,r2):=H
 have A3:=zA A30
 clear A30
 have H':=zA H
 clear H
 go_enter Tryd.func90,Tryd.ntmps90
 go_wp2_with (first|(go_at_call 108;(with_reducible refine (foretellref_SplitOf.calls k _ _ l0 t399 t400 _ (qu HR0.out) HC0.out A3.out).mono ?_);rintro e w4 ⟨v401,rfl,ho0,hb⟩;have HO402:=zA (Kd.S_lower ho0 qs);replace HB:=zA (zH qb hb);clear ho0 hb))
 repeat (go_quiet (first|(go_at_call 108;(with_reducible refine (foretellref_SplitOf.calls k _ _ l0 t399 t400 _ (qu HR0.out) HC0.out A3.out).mono ?_);rintro e w4 ⟨v401,rfl,ho0,hb⟩;have HO402:=zA (Kd.S_lower ho0 qs);replace HB:=zA (zH qb hb);clear ho0 hb));try go_wp2_with (first|(go_at_call 108;(with_reducible refine (foretellref_SplitOf.calls k _ _ l0 t399 t400 _ (qu HR0.out) HC0.out A3.out).mono ?_);rintro e w4 ⟨v401,rfl,ho0,hb⟩;have HO402:=zA (Kd.S_lower ho0 qs);replace HB:=zA (zH qb hb);clear ho0 hb)))
 go_loopg [8,9] k (fun kq v8 v9 w'=>∃ (x8_1:List Int) (x9_1:Int),v9 = .int .i64 x9_1∧Aside0 (foretellref_worked.l0 kq l0 l1 t399 x8_1 x9_1 = some (r1,r2))∧Aside0 (kq ≤ k)∧Aside0 (Kd.S (Kd.slice 65 k65) 22 w' w.heap.size (fun _=>True) v401 t399)∧Aside0 (Kd.R (Kd.int .i64) 3 w' w.heap.size (fun _=>True) v8 x8_1)∧Aside0 (Below w.heap.size w w'))
 case atStart=>exact ⟨(([]:List Int)),(0),qr,H',⟨Nat.le_refl _⟩,⟨qS HO402⟩,⟨ql⟩,⟨qb⟩⟩
 case round =>
  clear H'
  try clear c1
  try clear p2
  obtain ⟨x8_1,x9_1,rfl,HA,HK1,HO_6,HO_8,HB⟩:=hrel
  cases gk with
  | zero=>exact absurd HA.out (by simp [foretellref_worked.l0])
  | succ k1 =>
   have H:=HA.out
   clear HA
   simp only [foretellref_worked.l0] at H
   rcases qj H with ⟨c5b0,H⟩|⟨c5b0,H⟩
   ·by_cases c6:x8_1.length < 17592186044416
    ·rw [if_pos c6] at H
     have LMc6:=zA c6
     clear c6
     obtain ⟨y403,hy403⟩:∃ y_:List Int,y_ = (x8_1 ++ [0]):=⟨_,rfl⟩
     replace H:(foretellref_worked.l0 k1 l0 l1 t399 y403 (wrap64 (x9_1 + 1))) = some (r1,r2):=by first|(rw [hy403];with_reducible exact H)|(have H2_:=(Option.bind_some _ _).symm.trans H;rw [hy403];with_reducible exact H2_)|(have H2_:=(Option.bind_some _ _).symm.trans H;with_reducible exact H2_)|with_reducible exact H|(rw [hy403];exact H)|exact H
     have Ny403:=zA hy403
     clear hy403
     have H':=zA H
     clear H
     obtain ⟨Ao7,co7,eo7⟩:=Kd.S_slice HO_6.out
     subst eo7
     go_wp2_with (first|((with_reducible refine gate_builtin (b:=.append) (xs:=#[.tmp 26,.tmp 27]) rfl ?_);at_builtin;refine Kd.R_append (Kd.int .i64) (w0:=w) w.heap.size rfl (.tmp 26) (.tmp 27) 37 3 (.int .i64 0) 8 rfl Tryd.underlying37 info3 rfl (by decide) (by omega) u8 x8_1 0 [.int .i64 0] (fun _=>True) (fun _=>False) rfl rfl rfl (fun _ hk=>hk.elim) (fun _ _=>trivial) (qR HO_8) qb qs (qo LMc6) ?_;intro v404 w8 ho hb hg hat;rw [← Ny403.out] at ho;replace HO_6:=zA (Kd.S_over' (qS HO_6) (Kd.R_typed (qR HO_8)) (by decide) hg);replace HB:=zA (hb);have HO405:=zA (ho);clear HO_8;clear ho hb hg hat))
     repeat (go_quiet (first|((with_reducible refine gate_builtin (b:=.append) (xs:=#[.tmp 26,.tmp 27]) rfl ?_);at_builtin;refine Kd.R_append (Kd.int .i64) (w0:=w) w.heap.size rfl (.tmp 26) (.tmp 27) 37 3 (.int .i64 0) 8 rfl Tryd.underlying37 info3 rfl (by decide) (by omega) u8 x8_1 0 [.int .i64 0] (fun _=>True) (fun _=>False) rfl rfl rfl (fun _ hk=>hk.elim) (fun _ _=>trivial) (qR HO_8) qb qs (qo LMc6) ?_;intro v404 w8 ho hb hg hat;rw [← Ny403.out] at ho;replace HO_6:=zA (Kd.S_over' (qS HO_6) (Kd.R_typed (qR HO_8)) (by decide) hg);replace HB:=zA (hb);have HO405:=zA (ho);clear HO_8;clear ho hb hg hat));try go_wp2_with (first|((with_reducible refine gate_builtin (b:=.append) (xs:=#[.tmp 26,.tmp 27]) rfl ?_);at_builtin;refine Kd.R_append (Kd.int .i64) (w0:=w) w.heap.size rfl (.tmp 26) (.tmp 27) 37 3 (.int .i64 0) 8 rfl Tryd.underlying37 info3 rfl (by decide) (by omega) u8 x8_1 0 [.int .i64 0] (fun _=>True) (fun _=>False) rfl rfl rfl (fun _ hk=>hk.elim) (fun _ _=>trivial) (qR HO_8) qb qs (qo LMc6) ?_;intro v404 w8 ho hb hg hat;rw [← Ny403.out] at ho;replace HO_6:=zA (Kd.S_over' (qS HO_6) (Kd.R_typed (qR HO_8)) (by decide) hg);replace HB:=zA (hb);have HO405:=zA (ho);clear HO_8;clear ho hb hg hat)))
     go_roundg k1
     case measure=>have:=HK1.out;omega
     case rel=>exact ⟨(y403),(wrap64 (x9_1 + 1)),qr,H',⟨qo HK1⟩,⟨qS HO_6⟩,⟨qR HO405⟩,⟨qb⟩⟩
    ·rw [if_neg c6] at H
     exact absurd H (by simp)
   ·have H':=zA H
    clear H
    obtain ⟨Ao9,co9,eo9⟩:=Kd.S_slice HO_6.out
    subst eo9
    go_wp2
    repeat (go_quiet (fail);try go_wp2)
    go_loopg [10] k1 (fun kq v10 w'=>∃ (x8_2:List Int) (x10_2:Int),v10 = .int .i64 x10_2∧Aside0 (foretellref_worked.l1 kq l0 l1 t399 x8_2 x10_2 = some (r1,r2))∧Aside0 (kq ≤ k1)∧Aside0 (Kd.S (Kd.slice 65 k65) 22 w' w.heap.size (fun _=>True) (.slice Ao9 t399.length co9) t399)∧Aside0 (Kd.R (Kd.int .i64) 3 w' w.heap.size (fun _=>True) u8 x8_2)∧Aside0 (Below w.heap.size w w'))
    case atStart=>exact ⟨(x8_1),(wrap64 ((t399.length:Int) - 1)),qr,H',⟨Nat.le_refl _⟩,⟨qS HO_6⟩,⟨qR HO_8⟩,⟨qb⟩⟩
    case round =>
     clear H'
     try clear c1
     try clear p2
     try clear c5
     try clear c5b0
     try clear c6
     try clear p6
     try clear c9
     try clear p2
     obtain ⟨x8_2,x10_2,rfl,HA,HK2,HO_6,HO_8,HB⟩:=hrel
     cases gk with
     | zero=>exact absurd HA.out (by simp [foretellref_worked.l1])
     | succ k2 =>
      have H:=HA.out
      clear HA
      simp only [foretellref_worked.l1] at H
      by_cases c10:x10_2 ≥ 0
      ·rw [if_pos c10] at H
       have c10b0:decide (0 ≤ x10_2) = true:=zQ c10
       clear c10
       rcases qj H with ⟨c11b0,H⟩|⟨c11,H⟩
       ·rcases qj H with ⟨c12b0,H⟩|⟨c12,H⟩
        ·replace H:=zb.mp H
         obtain ⟨⟨t407,t408⟩,A130,H⟩:=H
         replace H:(if t408 = 0 then (if x10_2 < (x8_2.length:Int) then (foretellref_worked.l1 k2 l0 l1 t399 (x8_2.set (x10_2:Int).toNat t407) (wrap64 (x10_2 - 1))) else (none)) else (some (0,t408))) = some (r1,r2):=H
         have A13:=zA A130
         clear A130
         by_cases c14:t408 = 0
         ·rw [if_pos c14] at H
          have c14b0:(t408 == 0) = true:=beq_iff_eq.mpr c14
          have c14b1:(t408 != 0) = false:=bne_eq_false_iff_eq.mpr c14
          clear c14
          rcases qj H with ⟨c15b0,H⟩|⟨c15,H⟩
          ·obtain ⟨y409,hy409⟩:∃ y_:List Int,y_ = (x8_2.set (x10_2:Int).toNat t407):=⟨_,rfl⟩
           replace H:(foretellref_worked.l1 k2 l0 l1 t399 y409 (wrap64 (x10_2 - 1))) = some (r1,r2):=by first|(rw [hy409];with_reducible exact H)|(have H2_:=(Option.bind_some _ _).symm.trans H;rw [hy409];with_reducible exact H2_)|(have H2_:=(Option.bind_some _ _).symm.trans H;with_reducible exact H2_)|with_reducible exact H|(rw [hy409];exact H)|exact H
           have Ny409:=zA hy409
           clear hy409
           have H':=zA H
           clear H
           have p406:0 ≤ (x10_2:Int):=qd
           have q406:x10_2 < (t399.length:Int):=qd
           obtain ⟨ad406,A406_0,c406_0,e406,hx406_0,hl406_0,hi406_0⟩:=at_L4 (Kd.S_reads' HO_6.out).2.2 x10_2 p406 q406
           cases e406
           obtain ⟨ce406,hce406,hMe406,hcc406⟩:=Kd.S_get HO_6.out [] x10_2 p406 (by first|exact q406|exact qd|(have e_:=(Kd.S_reads' HO_6.out).1;omega))
           obtain ⟨ve406_0,rfl,ge406_0⟩:=hMe406
           have hv406_0:=hcc406 0 _ rfl
           rw [Nat.add_zero,show ((Kd.slice 65 k65)).sz = 1 from rfl,Nat.mul_one] at hv406_0
           replace hv406_0:=Option.some.inj (hv406_0.symm.trans hx406_0)
           rw [hv406_0] at ge406_0
           have HL406_0:=zA (show Kd.R k65 65 _ _ _ _ (rd_L4 t399 x10_2) from ge406_0)
           clear hv406_0 ge406_0
           clear hcc406 hce406
           have HR406_0:=zA hi406_0
           have HC406_0:=zA hl406_0
           clear hi406_0 hl406_0
           replace p406:=eq_true p406
           replace q406:=eq_true q406
           go_wp2_with (first|(go_at_call 90;(with_reducible refine (ih k2 (qp HK1 HK2) _ _ (rd_L4 t399 x10_2) _ _ l1 t407 t408 _ (qu (qC HR406_0)) HC406_0.out (qc HR1) HC1.out A13.out).mono ?_);rintro e w17 ⟨rfl,hb⟩;replace HO_6:=zA (Kd.S_below (qS HO_6) hb);replace HO_8:=zA (Kd.R_below (qR HO_8) hb);replace HL406_0:=zA (Kd.R_below (qR HL406_0) hb);replace HR406_0:=zA (zT (qC HR406_0) hb);replace HB:=zA (zH qb hb);clear hb;have p16:0 ≤ (x10_2:Int):=qd;have q16:(x10_2:Int) < ((x8_2.length:Int):Int):=qd;obtain ⟨go16,co16,eo16,gb16,gl16,cl16,HG16⟩:=Kd.R_form HO_8.out (by omega);(first|cases eo16|(injection eo16 with ea_ en_ ec_;(first|subst ea_|(injection ea_ with ea_;subst ea_));subst ec_;clear en_));have GB16:=zA gb16;have GG16:=zA HG16;clear gb16 gl16 HG16;obtain ⟨hx16_0,hf16_0⟩:=Kd.R_celln 0 HO_8.out (x10_2:Int) p16 q16;replace p16:=eq_true p16;replace q16:=eq_true q16;obtain ⟨hy18_,hz18_⟩:=Kd.R_celln 0 HO_8.out (x10_2:Int) (qd) (qd);have HP18:=Kd.R_putg HO_8.out (x10_2:Int) t407)|((with_reducible refine gate_store (t:=3) (p:=51) rfl ?_);(try (rw [drewN_self w17];generalize hq_:World.drewN w17 _ = w17;have n0_:=zA (Kd.S_at hq_ HO_6.out);have n1_:=zA (Kd.R_at hq_ HO_8.out);have n2_:=zA (Kd.R_at hq_ HL406_0.out);have n3_:=zA (below_at hq_ HB.out);clear hq_ HO_6 HO_8 HL406_0 HB;have HO_6:=n0_;have HO_8:=n1_;have HL406_0:=n2_;have HB:=n3_;clear n0_ n1_ n2_ n3_;(try (obtain ⟨hy18_,hz18_⟩:=Kd.R_celln 0 HO_8.out (x10_2:Int) (qd) (qd)));(try (have HP18:=Kd.R_putg HO_8.out (x10_2:Int) t407))));refine store_event (t:=3) (p:=51) (v:=?vo_w19) (w1:=(w17.setCell ⟨go16,(x10_2:Int).toNat,none⟩ (.int .i64 t407))) ?hg ?ho ?hn ?hr ?_;(case ho=>rfl);(case hg=>rfl);(case hn=>rfl);(case hr=>first|(go_simp;done)|(go_simp;rfl));intro w19 hw;have hg:w17.grownBy w19 (some go16):=(by rw [hw];exact HP18.2);have hp_:Kd.R (Kd.int .i64) 3 w19 w.heap.size (fun _=>True) (.slice (some ⟨go16,0,none⟩) x8_2.length co16) y409:=(by rw [hw,Ny409.out];exact HP18.1);clear HP18;replace HO_6:=zA (Kd.S_over' (v:=(.slice (some ⟨go16,0,none⟩) x8_2.length co16)) (qS HO_6) (Kd.R_typed HO_8.out) (by decide) hg);replace HL406_0:=zA (Kd.R_over' (v:=(.slice (some ⟨go16,0,none⟩) x8_2.length co16)) (qR HL406_0) (Kd.R_typed HO_8.out) (by decide) hg);replace HO_8:=zA (hp_);replace HB:=zA ((by rw [hw];exact zF (HB.out) GB16.out:Below w.heap.size w w19));clear hg hw hp_))
           repeat (go_quiet (first|(go_at_call 90;(with_reducible refine (ih k2 (qp HK1 HK2) _ _ (rd_L4 t399 x10_2) _ _ l1 t407 t408 _ (qu (qC HR406_0)) HC406_0.out (qc HR1) HC1.out A13.out).mono ?_);rintro e w17 ⟨rfl,hb⟩;replace HO_6:=zA (Kd.S_below (qS HO_6) hb);replace HO_8:=zA (Kd.R_below (qR HO_8) hb);replace HL406_0:=zA (Kd.R_below (qR HL406_0) hb);replace HR406_0:=zA (zT (qC HR406_0) hb);replace HB:=zA (zH qb hb);clear hb;have p16:0 ≤ (x10_2:Int):=qd;have q16:(x10_2:Int) < ((x8_2.length:Int):Int):=qd;obtain ⟨go16,co16,eo16,gb16,gl16,cl16,HG16⟩:=Kd.R_form HO_8.out (by omega);(first|cases eo16|(injection eo16 with ea_ en_ ec_;(first|subst ea_|(injection ea_ with ea_;subst ea_));subst ec_;clear en_));have GB16:=zA gb16;have GG16:=zA HG16;clear gb16 gl16 HG16;obtain ⟨hx16_0,hf16_0⟩:=Kd.R_celln 0 HO_8.out (x10_2:Int) p16 q16;replace p16:=eq_true p16;replace q16:=eq_true q16;obtain ⟨hy18_,hz18_⟩:=Kd.R_celln 0 HO_8.out (x10_2:Int) (qd) (qd);have HP18:=Kd.R_putg HO_8.out (x10_2:Int) t407)|((with_reducible refine gate_store (t:=3) (p:=51) rfl ?_);(try (rw [drewN_self w17];generalize hq_:World.drewN w17 _ = w17;have n0_:=zA (Kd.S_at hq_ HO_6.out);have n1_:=zA (Kd.R_at hq_ HO_8.out);have n2_:=zA (Kd.R_at hq_ HL406_0.out);have n3_:=zA (below_at hq_ HB.out);clear hq_ HO_6 HO_8 HL406_0 HB;have HO_6:=n0_;have HO_8:=n1_;have HL406_0:=n2_;have HB:=n3_;clear n0_ n1_ n2_ n3_;(try (obtain ⟨hy18_,hz18_⟩:=Kd.R_celln 0 HO_8.out (x10_2:Int) (qd) (qd)));(try (have HP18:=Kd.R_putg HO_8.out (x10_2:Int) t407))));refine store_event (t:=3) (p:=51) (v:=?vo_w19) (w1:=(w17.setCell ⟨go16,(x10_2:Int).toNat,none⟩ (.int .i64 t407))) ?hg ?ho ?hn ?hr ?_;(case ho=>rfl);(case hg=>rfl);(case hn=>rfl);(case hr=>first|(go_simp;done)|(go_simp;rfl));intro w19 hw;have hg:w17.grownBy w19 (some go16):=(by rw [hw];exact HP18.2);have hp_:Kd.R (Kd.int .i64) 3 w19 w.heap.size (fun _=>True) (.slice (some ⟨go16,0,none⟩) x8_2.length co16) y409:=(by rw [hw,Ny409.out];exact HP18.1);clear HP18;replace HO_6:=zA (Kd.S_over' (v:=(.slice (some ⟨go16,0,none⟩) x8_2.length co16)) (qS HO_6) (Kd.R_typed HO_8.out) (by decide) hg);replace HL406_0:=zA (Kd.R_over' (v:=(.slice (some ⟨go16,0,none⟩) x8_2.length co16)) (qR HL406_0) (Kd.R_typed HO_8.out) (by decide) hg);replace HO_8:=zA (hp_);replace HB:=zA ((by rw [hw];exact zF (HB.out) GB16.out:Below w.heap.size w w19));clear hg hw hp_));try go_wp2_with (first|(go_at_call 90;(with_reducible refine (ih k2 (qp HK1 HK2) _ _ (rd_L4 t399 x10_2) _ _ l1 t407 t408 _ (qu (qC HR406_0)) HC406_0.out (qc HR1) HC1.out A13.out).mono ?_);rintro e w17 ⟨rfl,hb⟩;replace HO_6:=zA (Kd.S_below (qS HO_6) hb);replace HO_8:=zA (Kd.R_below (qR HO_8) hb);replace HL406_0:=zA (Kd.R_below (qR HL406_0) hb);replace HR406_0:=zA (zT (qC HR406_0) hb);replace HB:=zA (zH qb hb);clear hb;have p16:0 ≤ (x10_2:Int):=qd;have q16:(x10_2:Int) < ((x8_2.length:Int):Int):=qd;obtain ⟨go16,co16,eo16,gb16,gl16,cl16,HG16⟩:=Kd.R_form HO_8.out (by omega);(first|cases eo16|(injection eo16 with ea_ en_ ec_;(first|subst ea_|(injection ea_ with ea_;subst ea_));subst ec_;clear en_));have GB16:=zA gb16;have GG16:=zA HG16;clear gb16 gl16 HG16;obtain ⟨hx16_0,hf16_0⟩:=Kd.R_celln 0 HO_8.out (x10_2:Int) p16 q16;replace p16:=eq_true p16;replace q16:=eq_true q16;obtain ⟨hy18_,hz18_⟩:=Kd.R_celln 0 HO_8.out (x10_2:Int) (qd) (qd);have HP18:=Kd.R_putg HO_8.out (x10_2:Int) t407)|((with_reducible refine gate_store (t:=3) (p:=51) rfl ?_);(try (rw [drewN_self w17];generalize hq_:World.drewN w17 _ = w17;have n0_:=zA (Kd.S_at hq_ HO_6.out);have n1_:=zA (Kd.R_at hq_ HO_8.out);have n2_:=zA (Kd.R_at hq_ HL406_0.out);have n3_:=zA (below_at hq_ HB.out);clear hq_ HO_6 HO_8 HL406_0 HB;have HO_6:=n0_;have HO_8:=n1_;have HL406_0:=n2_;have HB:=n3_;clear n0_ n1_ n2_ n3_;(try (obtain ⟨hy18_,hz18_⟩:=Kd.R_celln 0 HO_8.out (x10_2:Int) (qd) (qd)));(try (have HP18:=Kd.R_putg HO_8.out (x10_2:Int) t407))));refine store_event (t:=3) (p:=51) (v:=?vo_w19) (w1:=(w17.setCell ⟨go16,(x10_2:Int).toNat,none⟩ (.int .i64 t407))) ?hg ?ho ?hn ?hr ?_;(case ho=>rfl);(case hg=>rfl);(case hn=>rfl);(case hr=>first|(go_simp;done)|(go_simp;rfl));intro w19 hw;have hg:w17.grownBy w19 (some go16):=(by rw [hw];exact HP18.2);have hp_:Kd.R (Kd.int .i64) 3 w19 w.heap.size (fun _=>True) (.slice (some ⟨go16,0,none⟩) x8_2.length co16) y409:=(by rw [hw,Ny409.out];exact HP18.1);clear HP18;replace HO_6:=zA (Kd.S_over' (v:=(.slice (some ⟨go16,0,none⟩) x8_2.length co16)) (qS HO_6) (Kd.R_typed HO_8.out) (by decide) hg);replace HL406_0:=zA (Kd.R_over' (v:=(.slice (some ⟨go16,0,none⟩) x8_2.length co16)) (qR HL406_0) (Kd.R_typed HO_8.out) (by decide) hg);replace HO_8:=zA (hp_);replace HB:=zA ((by rw [hw];exact zF (HB.out) GB16.out:Below w.heap.size w w19));clear hg hw hp_)))
           go_roundg k2
           case measure=>have:=HK1.out;have:=HK2.out;omega
           case rel=>exact ⟨(y409),(wrap64 (x10_2 - 1)),qr,H',⟨qp HK1 HK2⟩,⟨qS HO_6⟩,⟨qR HO_8⟩,⟨qb⟩⟩
          ·exact absurd H (by simp)
         ·rw [if_neg c14] at H
          have c14b0:(t408 == 0) = false:=beq_eq_false_iff_ne.mpr c14
          have c14b1:(t408 != 0) = true:=bne_iff_ne.mpr c14
          simp only [Option.some.injEq,Prod.mk.injEq] at H
          obtain ⟨rfl,rfl⟩:=H
          have p406:0 ≤ (x10_2:Int):=qd
          have q406:x10_2 < (t399.length:Int):=qd
          obtain ⟨ad406,A406_0,c406_0,e406,hx406_0,hl406_0,hi406_0⟩:=at_L4 (Kd.S_reads' HO_6.out).2.2 x10_2 p406 q406
          cases e406
          obtain ⟨ce406,hce406,hMe406,hcc406⟩:=Kd.S_get HO_6.out [] x10_2 p406 (by first|exact q406|exact qd|(have e_:=(Kd.S_reads' HO_6.out).1;omega))
          obtain ⟨ve406_0,rfl,ge406_0⟩:=hMe406
          have hv406_0:=hcc406 0 _ rfl
          rw [Nat.add_zero,show ((Kd.slice 65 k65)).sz = 1 from rfl,Nat.mul_one] at hv406_0
          replace hv406_0:=Option.some.inj (hv406_0.symm.trans hx406_0)
          rw [hv406_0] at ge406_0
          have HL406_0:=zA (show Kd.R k65 65 _ _ _ _ (rd_L4 t399 x10_2) from ge406_0)
          clear hv406_0 ge406_0
          clear hcc406 hce406
          have HR406_0:=zA hi406_0
          have HC406_0:=zA hl406_0
          clear hi406_0 hl406_0
          replace p406:=eq_true p406
          replace q406:=eq_true q406
          go_wp2_with (first|(go_at_call 90;(with_reducible refine (ih k2 (qp HK1 HK2) _ _ (rd_L4 t399 x10_2) _ _ l1 t407 t408 _ (qu (qC HR406_0)) HC406_0.out (qc HR1) HC1.out A13.out).mono ?_);rintro e w20 ⟨rfl,hb⟩;replace HO_6:=zA (Kd.S_below (qS HO_6) hb);replace HO_8:=zA (Kd.R_below (qR HO_8) hb);replace HL406_0:=zA (Kd.R_below (qR HL406_0) hb);replace HR406_0:=zA (zT (qC HR406_0) hb);replace HB:=zA (zH qb hb);clear hb))
          repeat (go_quiet (first|(go_at_call 90;(with_reducible refine (ih k2 (qp HK1 HK2) _ _ (rd_L4 t399 x10_2) _ _ l1 t407 t408 _ (qu (qC HR406_0)) HC406_0.out (qc HR1) HC1.out A13.out).mono ?_);rintro e w20 ⟨rfl,hb⟩;replace HO_6:=zA (Kd.S_below (qS HO_6) hb);replace HO_8:=zA (Kd.R_below (qR HO_8) hb);replace HL406_0:=zA (Kd.R_below (qR HL406_0) hb);replace HR406_0:=zA (zT (qC HR406_0) hb);replace HB:=zA (zH qb hb);clear hb));try go_wp2_with (first|(go_at_call 90;(with_reducible refine (ih k2 (qp HK1 HK2) _ _ (rd_L4 t399 x10_2) _ _ l1 t407 t408 _ (qu (qC HR406_0)) HC406_0.out (qc HR1) HC1.out A13.out).mono ?_);rintro e w20 ⟨rfl,hb⟩;replace HO_6:=zA (Kd.S_below (qS HO_6) hb);replace HO_8:=zA (Kd.R_below (qR HO_8) hb);replace HL406_0:=zA (Kd.R_below (qR HL406_0) hb);replace HR406_0:=zA (zT (qC HR406_0) hb);replace HB:=zA (zH qb hb);clear hb)))
          go_ret2
          exact ⟨qe,qb⟩
        ·exact absurd H (by simp)
       ·exact absurd H (by simp)
      ·rw [if_neg c10] at H
       have c10b0:decide (0 ≤ x10_2) = false:=zR c10
       clear c10
       by_cases c21:0 < (l0.length:Int)
       ·rw [if_pos c21] at H
        have c21b0:decide (0 < (l0.length:Int)) = true:=zQ c21
        have c21b1:decide (0 < l0.length) = true:=zQ (by omega)
        clear c21
        have HC22:=zA H
        clear H
        have p410:0 ≤ (0:Int):=(by omega)
        have q410:0 < (l0.length:Int):=qd
        obtain ⟨ad410,e410,hx410_0,hx410_1⟩:=at_T65 HR0.out 0 p410 q410
        cases e410
        have qi410:(0 < l0.length) = True:=eq_true (by omega)
        (try rw [show ((0:Int)).toNat = 0 from rfl] at hx410_0)
        (try rw [show 0 * 2 = 0 from rfl] at hx410_0)
        (try rw [Addr.add_zero'] at hx410_0)
        (try rw [show ((0:Int)).toNat = 0 from rfl] at hx410_1)
        (try rw [show 0 * 2 = 0 from rfl] at hx410_1)
        (try rw [Addr.add_zero'] at hx410_1)
        replace hx410_0:=qy HB hx410_0
        replace hx410_1:=qy HB hx410_1
        replace p410:=eq_true p410
        replace q410:=eq_true q410
        go_upto_block 4 with (fail)
        repeat (go_quiet (fail);go_upto_block 4 with (fail))
        go_cut [13,14] (fun v13 v14 wc=>∃ (kq:Nat) (x13_21:Int) (x14_21:Bool),v13 = .int .i64 x13_21∧v14 = .bool x14_21∧Aside0 (foretellref_worked.j2 kq x13_21 x14_21 = some (r1,r2))∧Aside0 (kq ≤ k2)∧Aside0 (Below w.heap.size w wc))
        case first =>
         have H:=HC22.out
         clear HC22
         by_cases c23:((rd_T65 l0 0).f0) = 1
         ·rw [if_pos c23] at H
          have c23b0:(((rd_T65 l0 0).f0) == 1) = true:=beq_iff_eq.mpr c23
          have c23b1:(((rd_T65 l0 0).f0) != 1) = false:=bne_eq_false_iff_eq.mpr c23
          clear c23
          (first|rw [c23b0]|(simp only [i64_w,i32_w];rw [c23b0])|skip)
          have H':=zA H
          clear H
          have p411:0 ≤ (0:Int):=(by omega)
          have q411:0 < (l0.length:Int):=qd
          obtain ⟨ad411,e411,hx411_0,hx411_1⟩:=at_T65 HR0.out 0 p411 q411
          obtain rfl:ad410 = ad411:=(by injection e411)
          have qi411:(0 < l0.length) = True:=eq_true (by omega)
          (try rw [show ((0:Int)).toNat = 0 from rfl] at hx411_0)
          (try rw [show 0 * 2 = 0 from rfl] at hx411_0)
          (try rw [Addr.add_zero'] at hx411_0)
          (try rw [show ((0:Int)).toNat = 0 from rfl] at hx411_1)
          (try rw [show 0 * 2 = 0 from rfl] at hx411_1)
          (try rw [Addr.add_zero'] at hx411_1)
          replace hx411_0:=qy HB hx411_0
          replace hx411_1:=qy HB hx411_1
          replace p411:=eq_true p411
          replace q411:=eq_true q411
          go_wp2
          repeat (go_quiet (fail);try go_wp2)
          go_meet
          case rel=>exact ⟨_,((rd_T65 l0 0).f1),(false),qr,qr,H',⟨qp HK1 HK2⟩,⟨qb⟩⟩
         ·rw [if_neg c23] at H
          have c23b0:(((rd_T65 l0 0).f0) == 1) = false:=beq_eq_false_iff_ne.mpr c23
          have c23b1:(((rd_T65 l0 0).f0) != 1) = true:=bne_iff_ne.mpr c23
          (first|rw [c23b0]|(simp only [i64_w,i32_w];rw [c23b0])|skip)
          by_cases c24:((rd_T65 l0 0).f0) = 2
          ·rw [if_pos c24] at H
           have c24b0:(((rd_T65 l0 0).f0) == 2) = true:=beq_iff_eq.mpr c24
           have c24b1:(((rd_T65 l0 0).f0) != 2) = false:=bne_eq_false_iff_eq.mpr c24
           clear c24
           rcases qj H with ⟨c25b0,H⟩|⟨c25,H⟩
           ·rcases qj H with ⟨c26b0,H⟩|⟨c26,H⟩
            ·have H':=zA H
             clear H
             have p412:0 ≤ (0:Int):=(by omega)
             have q412:0 < (l0.length:Int):=qd
             obtain ⟨ad412,e412,hx412_0,hx412_1⟩:=at_T65 HR0.out 0 p412 q412
             obtain rfl:ad410 = ad412:=(by injection e412)
             have qi412:(0 < l0.length) = True:=eq_true (by omega)
             (try rw [show ((0:Int)).toNat = 0 from rfl] at hx412_0)
             (try rw [show 0 * 2 = 0 from rfl] at hx412_0)
             (try rw [Addr.add_zero'] at hx412_0)
             (try rw [show ((0:Int)).toNat = 0 from rfl] at hx412_1)
             (try rw [show 0 * 2 = 0 from rfl] at hx412_1)
             (try rw [Addr.add_zero'] at hx412_1)
             replace hx412_0:=qy HB hx412_0
             replace hx412_1:=qy HB hx412_1
             replace p412:=eq_true p412
             replace q412:=eq_true q412
             have p413:0 ≤ (((rd_T65 l0 0).f1):Int):=qd
             have q413:((rd_T65 l0 0).f1) < (l1.length:Int):=qd
             obtain ⟨ad413,e413,hx413_0⟩:=Kd.at_int HR1.out ((rd_T65 l0 0).f1) p413 q413
             cases e413
             replace hx413_0:=qy HB hx413_0
             replace p413:=eq_true p413
             replace q413:=eq_true q413
             go_wp2
             repeat (go_quiet (fail);try go_wp2)
             go_meet
             case rel=>exact ⟨_,(rd l1 ((rd_T65 l0 0).f1)),(false),qr,qr,H',⟨qp HK1 HK2⟩,⟨qb⟩⟩
            ·exact absurd H (by simp)
           ·exact absurd H (by simp)
          ·rw [if_neg c24] at H
           have c24b0:(((rd_T65 l0 0).f0) == 2) = false:=beq_eq_false_iff_ne.mpr c24
           have c24b1:(((rd_T65 l0 0).f0) != 2) = true:=bne_iff_ne.mpr c24
           by_cases c27:((rd_T65 l0 0).f0) = 3
           ·rw [if_pos c27] at H
            have c27b0:(((rd_T65 l0 0).f0) == 3) = true:=beq_iff_eq.mpr c27
            have c27b1:(((rd_T65 l0 0).f0) != 3) = false:=bne_eq_false_iff_eq.mpr c27
            clear c27
            by_cases c28:0 < (x8_2.length:Int)
            ·rw [if_pos c28] at H
             have c28b0:decide (0 < (x8_2.length:Int)) = true:=zQ c28
             have c28b1:decide (0 < x8_2.length) = true:=zQ (by omega)
             clear c28
             by_cases c29:1 < (x8_2.length:Int)
             ·rw [if_pos c29] at H
              have c29b0:decide (1 < (x8_2.length:Int)) = true:=zQ c29
              have c29b1:decide (1 < x8_2.length) = true:=zQ (by omega)
              clear c29
              have H':=zA H
              clear H
              obtain ⟨Ao30,co30,eo30⟩:=Kd.R_slice HO_8.out
              subst eo30
              have p414:0 ≤ (0:Int):=(by omega)
              have q414:0 < (x8_2.length:Int):=qd
              (try (obtain ⟨A_,c_,e_⟩:=Kd.R_slice HO_8.out;subst e_))
              obtain ⟨ad414,e414,hx414_0⟩:=Kd.at_int (Kd.R_reads' HO_8.out).2.2 0 p414 q414
              cases e414
              have qi414:(0 < x8_2.length) = True:=eq_true (by omega)
              (try rw [show ((0:Int)).toNat = 0 from rfl] at hx414_0)
              (try rw [Addr.add_zero'] at hx414_0)
              replace p414:=eq_true p414
              replace q414:=eq_true q414
              have p415:0 ≤ (1:Int):=(by omega)
              have q415:1 < (x8_2.length:Int):=qd
              (try (obtain ⟨A_,c_,e_⟩:=Kd.R_slice HO_8.out;subst e_))
              obtain ⟨ad415,e415,hx415_0⟩:=Kd.at_int (Kd.R_reads' HO_8.out).2.2 1 p415 q415
              obtain rfl:ad414 = ad415:=(by injection e415)
              (try simp only [show (1:Int).toNat = 1 from rfl,Nat.reduceMul,Nat.reduceEqDiff,Go.Addr.add,↓reduceIte] at hx415_0)
              have qi415:(1 < x8_2.length) = True:=eq_true (by omega)
              (try rw [show ((1:Int)).toNat = 1 from rfl] at hx415_0)
              replace p415:=eq_true p415
              replace q415:=eq_true q415
              go_wp2
              repeat (go_quiet (fail);try go_wp2)
              go_meet
              case rel=>exact ⟨_,(wrap64 ((rd x8_2 0) + (rd x8_2 1))),(false),qr,qr,H',⟨qp HK1 HK2⟩,⟨qb⟩⟩
             ·rw [if_neg c29] at H
              exact absurd H (by simp)
            ·rw [if_neg c28] at H
             exact absurd H (by simp)
           ·rw [if_neg c27] at H
            have c27b0:(((rd_T65 l0 0).f0) == 3) = false:=beq_eq_false_iff_ne.mpr c27
            have c27b1:(((rd_T65 l0 0).f0) != 3) = true:=bne_iff_ne.mpr c27
            by_cases c31:((rd_T65 l0 0).f0) = 4
            ·rw [if_pos c31] at H
             have c31b0:(((rd_T65 l0 0).f0) == 4) = true:=beq_iff_eq.mpr c31
             have c31b1:(((rd_T65 l0 0).f0) != 4) = false:=bne_eq_false_iff_eq.mpr c31
             clear c31
             by_cases c32:0 < (x8_2.length:Int)
             ·rw [if_pos c32] at H
              have c32b0:decide (0 < (x8_2.length:Int)) = true:=zQ c32
              have c32b1:decide (0 < x8_2.length) = true:=zQ (by omega)
              clear c32
              by_cases c33:1 < (x8_2.length:Int)
              ·rw [if_pos c33] at H
               have c33b0:decide (1 < (x8_2.length:Int)) = true:=zQ c33
               have c33b1:decide (1 < x8_2.length) = true:=zQ (by omega)
               clear c33
               have H':=zA H
               clear H
               obtain ⟨Ao34,co34,eo34⟩:=Kd.R_slice HO_8.out
               subst eo34
               have p416:0 ≤ (0:Int):=(by omega)
               have q416:0 < (x8_2.length:Int):=qd
               (try (obtain ⟨A_,c_,e_⟩:=Kd.R_slice HO_8.out;subst e_))
               obtain ⟨ad416,e416,hx416_0⟩:=Kd.at_int (Kd.R_reads' HO_8.out).2.2 0 p416 q416
               cases e416
               have qi416:(0 < x8_2.length) = True:=eq_true (by omega)
               (try rw [show ((0:Int)).toNat = 0 from rfl] at hx416_0)
               (try rw [Addr.add_zero'] at hx416_0)
               replace p416:=eq_true p416
               replace q416:=eq_true q416
               have p417:0 ≤ (1:Int):=(by omega)
               have q417:1 < (x8_2.length:Int):=qd
               (try (obtain ⟨A_,c_,e_⟩:=Kd.R_slice HO_8.out;subst e_))
               obtain ⟨ad417,e417,hx417_0⟩:=Kd.at_int (Kd.R_reads' HO_8.out).2.2 1 p417 q417
               obtain rfl:ad416 = ad417:=(by injection e417)
               (try simp only [show (1:Int).toNat = 1 from rfl,Nat.reduceMul,Nat.reduceEqDiff,Go.Addr.add,↓reduceIte] at hx417_0)
               have qi417:(1 < x8_2.length) = True:=eq_true (by omega)
               (try rw [show ((1:Int)).toNat = 1 from rfl] at hx417_0)
               replace p417:=eq_true p417
               replace q417:=eq_true q417
               go_wp2
               repeat (go_quiet (fail);try go_wp2)
               go_meet
               case rel=>exact ⟨_,(wrap64 ((rd x8_2 0) - (rd x8_2 1))),(false),qr,qr,H',⟨qp HK1 HK2⟩,⟨qb⟩⟩
              ·rw [if_neg c33] at H
               exact absurd H (by simp)
             ·rw [if_neg c32] at H
              exact absurd H (by simp)
            ·rw [if_neg c31] at H
             have c31b0:(((rd_T65 l0 0).f0) == 4) = false:=beq_eq_false_iff_ne.mpr c31
             have c31b1:(((rd_T65 l0 0).f0) != 4) = true:=bne_iff_ne.mpr c31
             by_cases c35:((rd_T65 l0 0).f0) = 5
             ·rw [if_pos c35] at H
              have c35b0:(((rd_T65 l0 0).f0) == 5) = true:=beq_iff_eq.mpr c35
              have c35b1:(((rd_T65 l0 0).f0) != 5) = false:=bne_eq_false_iff_eq.mpr c35
              clear c35
              by_cases c36:0 < (x8_2.length:Int)
              ·rw [if_pos c36] at H
               have c36b0:decide (0 < (x8_2.length:Int)) = true:=zQ c36
               have c36b1:decide (0 < x8_2.length) = true:=zQ (by omega)
               clear c36
               by_cases c37:1 < (x8_2.length:Int)
               ·rw [if_pos c37] at H
                have c37b0:decide (1 < (x8_2.length:Int)) = true:=zQ c37
                have c37b1:decide (1 < x8_2.length) = true:=zQ (by omega)
                clear c37
                have H':=zA H
                clear H
                obtain ⟨Ao38,co38,eo38⟩:=Kd.R_slice HO_8.out
                subst eo38
                have p418:0 ≤ (0:Int):=(by omega)
                have q418:0 < (x8_2.length:Int):=qd
                (try (obtain ⟨A_,c_,e_⟩:=Kd.R_slice HO_8.out;subst e_))
                obtain ⟨ad418,e418,hx418_0⟩:=Kd.at_int (Kd.R_reads' HO_8.out).2.2 0 p418 q418
                cases e418
                have qi418:(0 < x8_2.length) = True:=eq_true (by omega)
                (try rw [show ((0:Int)).toNat = 0 from rfl] at hx418_0)
                (try rw [Addr.add_zero'] at hx418_0)
                replace p418:=eq_true p418
                replace q418:=eq_true q418
                have p419:0 ≤ (1:Int):=(by omega)
                have q419:1 < (x8_2.length:Int):=qd
                (try (obtain ⟨A_,c_,e_⟩:=Kd.R_slice HO_8.out;subst e_))
                obtain ⟨ad419,e419,hx419_0⟩:=Kd.at_int (Kd.R_reads' HO_8.out).2.2 1 p419 q419
                obtain rfl:ad418 = ad419:=(by injection e419)
                (try simp only [show (1:Int).toNat = 1 from rfl,Nat.reduceMul,Nat.reduceEqDiff,Go.Addr.add,↓reduceIte] at hx419_0)
                have qi419:(1 < x8_2.length) = True:=eq_true (by omega)
                (try rw [show ((1:Int)).toNat = 1 from rfl] at hx419_0)
                replace p419:=eq_true p419
                replace q419:=eq_true q419
                go_wp2
                repeat (go_quiet (fail);try go_wp2)
                go_meet
                case rel=>exact ⟨_,(wrap64 ((rd x8_2 0) * (rd x8_2 1))),(false),qr,qr,H',⟨qp HK1 HK2⟩,⟨qb⟩⟩
               ·rw [if_neg c37] at H
                exact absurd H (by simp)
              ·rw [if_neg c36] at H
               exact absurd H (by simp)
             ·rw [if_neg c35] at H
              have c35b0:(((rd_T65 l0 0).f0) == 5) = false:=beq_eq_false_iff_ne.mpr c35
              have c35b1:(((rd_T65 l0 0).f0) != 5) = true:=bne_iff_ne.mpr c35
              by_cases c39:((rd_T65 l0 0).f0) = 6
              ·rw [if_pos c39] at H
               have c39b0:(((rd_T65 l0 0).f0) == 6) = true:=beq_iff_eq.mpr c39
               have c39b1:(((rd_T65 l0 0).f0) != 6) = false:=bne_eq_false_iff_eq.mpr c39
               clear c39
               by_cases c40:0 < (x8_2.length:Int)
               ·rw [if_pos c40] at H
                have c40b0:decide (0 < (x8_2.length:Int)) = true:=zQ c40
                have c40b1:decide (0 < x8_2.length) = true:=zQ (by omega)
                clear c40
                by_cases c41:1 < (x8_2.length:Int)
                ·rw [if_pos c41] at H
                 have c41b0:decide (1 < (x8_2.length:Int)) = true:=zQ c41
                 have c41b1:decide (1 < x8_2.length) = true:=zQ (by omega)
                 clear c41
                 have H':=zA H
                 clear H
                 obtain ⟨Ao42,co42,eo42⟩:=Kd.R_slice HO_8.out
                 subst eo42
                 have p420:0 ≤ (0:Int):=(by omega)
                 have q420:0 < (x8_2.length:Int):=qd
                 (try (obtain ⟨A_,c_,e_⟩:=Kd.R_slice HO_8.out;subst e_))
                 obtain ⟨ad420,e420,hx420_0⟩:=Kd.at_int (Kd.R_reads' HO_8.out).2.2 0 p420 q420
                 cases e420
                 have qi420:(0 < x8_2.length) = True:=eq_true (by omega)
                 (try rw [show ((0:Int)).toNat = 0 from rfl] at hx420_0)
                 (try rw [Addr.add_zero'] at hx420_0)
                 replace p420:=eq_true p420
                 replace q420:=eq_true q420
                 have p421:0 ≤ (1:Int):=(by omega)
                 have q421:1 < (x8_2.length:Int):=qd
                 (try (obtain ⟨A_,c_,e_⟩:=Kd.R_slice HO_8.out;subst e_))
                 obtain ⟨ad421,e421,hx421_0⟩:=Kd.at_int (Kd.R_reads' HO_8.out).2.2 1 p421 q421
                 obtain rfl:ad420 = ad421:=(by injection e421)
                 (try simp only [show (1:Int).toNat = 1 from rfl,Nat.reduceMul,Nat.reduceEqDiff,Go.Addr.add,↓reduceIte] at hx421_0)
                 have qi421:(1 < x8_2.length) = True:=eq_true (by omega)
                 (try rw [show ((1:Int)).toNat = 1 from rfl] at hx421_0)
                 replace p421:=eq_true p421
                 replace q421:=eq_true q421
                 go_wp2
                 repeat (go_quiet (fail);try go_wp2)
                 go_meet
                 case rel=>exact ⟨_,(0),(((rd x8_2 0) == (rd x8_2 1))),qr,qr,H',⟨qp HK1 HK2⟩,⟨qb⟩⟩
                ·rw [if_neg c41] at H
                 exact absurd H (by simp)
               ·rw [if_neg c40] at H
                exact absurd H (by simp)
              ·rw [if_neg c39] at H
               have c39b0:(((rd_T65 l0 0).f0) == 6) = false:=beq_eq_false_iff_ne.mpr c39
               have c39b1:(((rd_T65 l0 0).f0) != 6) = true:=bne_iff_ne.mpr c39
               by_cases c43:((rd_T65 l0 0).f0) = 7
               ·rw [if_pos c43] at H
                have c43b0:(((rd_T65 l0 0).f0) == 7) = true:=beq_iff_eq.mpr c43
                have c43b1:(((rd_T65 l0 0).f0) != 7) = false:=bne_eq_false_iff_eq.mpr c43
                clear c43
                by_cases c44:0 < (x8_2.length:Int)
                ·rw [if_pos c44] at H
                 have c44b0:decide (0 < (x8_2.length:Int)) = true:=zQ c44
                 have c44b1:decide (0 < x8_2.length) = true:=zQ (by omega)
                 clear c44
                 by_cases c45:1 < (x8_2.length:Int)
                 ·rw [if_pos c45] at H
                  have c45b0:decide (1 < (x8_2.length:Int)) = true:=zQ c45
                  have c45b1:decide (1 < x8_2.length) = true:=zQ (by omega)
                  clear c45
                  have H':=zA H
                  clear H
                  obtain ⟨Ao46,co46,eo46⟩:=Kd.R_slice HO_8.out
                  subst eo46
                  have p422:0 ≤ (0:Int):=(by omega)
                  have q422:0 < (x8_2.length:Int):=qd
                  (try (obtain ⟨A_,c_,e_⟩:=Kd.R_slice HO_8.out;subst e_))
                  obtain ⟨ad422,e422,hx422_0⟩:=Kd.at_int (Kd.R_reads' HO_8.out).2.2 0 p422 q422
                  cases e422
                  have qi422:(0 < x8_2.length) = True:=eq_true (by omega)
                  (try rw [show ((0:Int)).toNat = 0 from rfl] at hx422_0)
                  (try rw [Addr.add_zero'] at hx422_0)
                  replace p422:=eq_true p422
                  replace q422:=eq_true q422
                  have p423:0 ≤ (1:Int):=(by omega)
                  have q423:1 < (x8_2.length:Int):=qd
                  (try (obtain ⟨A_,c_,e_⟩:=Kd.R_slice HO_8.out;subst e_))
                  obtain ⟨ad423,e423,hx423_0⟩:=Kd.at_int (Kd.R_reads' HO_8.out).2.2 1 p423 q423
                  obtain rfl:ad422 = ad423:=(by injection e423)
                  (try simp only [show (1:Int).toNat = 1 from rfl,Nat.reduceMul,Nat.reduceEqDiff,Go.Addr.add,↓reduceIte] at hx423_0)
                  have qi423:(1 < x8_2.length) = True:=eq_true (by omega)
                  (try rw [show ((1:Int)).toNat = 1 from rfl] at hx423_0)
                  replace p423:=eq_true p423
                  replace q423:=eq_true q423
                  go_wp2
                  repeat (go_quiet (fail);try go_wp2)
                  go_meet
                  case rel=>exact ⟨_,(0),(decide ((rd x8_2 0) < (rd x8_2 1))),qr,qr,H',⟨qp HK1 HK2⟩,⟨qb⟩⟩
                 ·rw [if_neg c45] at H
                  exact absurd H (by simp)
                ·rw [if_neg c44] at H
                 exact absurd H (by simp)
               ·rw [if_neg c43] at H
                have c43b0:(((rd_T65 l0 0).f0) == 7) = false:=beq_eq_false_iff_ne.mpr c43
                have c43b1:(((rd_T65 l0 0).f0) != 7) = true:=bne_iff_ne.mpr c43
                by_cases c47:((rd_T65 l0 0).f0) = 8
                ·rw [if_pos c47] at H
                 have c47b0:(((rd_T65 l0 0).f0) == 8) = true:=beq_iff_eq.mpr c47
                 have c47b1:(((rd_T65 l0 0).f0) != 8) = false:=bne_eq_false_iff_eq.mpr c47
                 clear c47
                 by_cases c48:0 < (x8_2.length:Int)
                 ·rw [if_pos c48] at H
                  have c48b0:decide (0 < (x8_2.length:Int)) = true:=zQ c48
                  have c48b1:decide (0 < x8_2.length) = true:=zQ (by omega)
                  clear c48
                  by_cases c49:(rd x8_2 0) = 1
                  ·rw [if_pos c49] at H
                   have c49b0:((rd x8_2 0) == 1) = true:=beq_iff_eq.mpr c49
                   have c49b1:((rd x8_2 0) != 1) = false:=bne_eq_false_iff_eq.mpr c49
                   clear c49
                   by_cases c50:1 < (x8_2.length:Int)
                   ·rw [if_pos c50] at H
                    have c50b0:decide (1 < (x8_2.length:Int)) = true:=zQ c50
                    have c50b1:decide (1 < x8_2.length) = true:=zQ (by omega)
                    clear c50
                    have H':=zA H
                    clear H
                    obtain ⟨Ao51,co51,eo51⟩:=Kd.R_slice HO_8.out
                    subst eo51
                    have p424:0 ≤ (0:Int):=(by omega)
                    have q424:0 < (x8_2.length:Int):=qd
                    (try (obtain ⟨A_,c_,e_⟩:=Kd.R_slice HO_8.out;subst e_))
                    obtain ⟨ad424,e424,hx424_0⟩:=Kd.at_int (Kd.R_reads' HO_8.out).2.2 0 p424 q424
                    cases e424
                    have qi424:(0 < x8_2.length) = True:=eq_true (by omega)
                    (try rw [show ((0:Int)).toNat = 0 from rfl] at hx424_0)
                    (try rw [Addr.add_zero'] at hx424_0)
                    replace p424:=eq_true p424
                    replace q424:=eq_true q424
                    have p425:0 ≤ (1:Int):=(by omega)
                    have q425:1 < (x8_2.length:Int):=qd
                    (try (obtain ⟨A_,c_,e_⟩:=Kd.R_slice HO_8.out;subst e_))
                    obtain ⟨ad425,e425,hx425_0⟩:=Kd.at_int (Kd.R_reads' HO_8.out).2.2 1 p425 q425
                    obtain rfl:ad424 = ad425:=(by injection e425)
                    (try simp only [show (1:Int).toNat = 1 from rfl,Nat.reduceMul,Nat.reduceEqDiff,Go.Addr.add,↓reduceIte] at hx425_0)
                    have qi425:(1 < x8_2.length) = True:=eq_true (by omega)
                    (try rw [show ((1:Int)).toNat = 1 from rfl] at hx425_0)
                    replace p425:=eq_true p425
                    replace q425:=eq_true q425
                    go_wp2
                    repeat (go_quiet (fail);try go_wp2)
                    go_meet
                    case rel=>exact ⟨_,(0),(((rd x8_2 1) == 1)),qr,qr,H',⟨qp HK1 HK2⟩,⟨qb⟩⟩
                   ·rw [if_neg c50] at H
                    exact absurd H (by simp)
                  ·rw [if_neg c49] at H
                   have c49b0:((rd x8_2 0) == 1) = false:=beq_eq_false_iff_ne.mpr c49
                   have c49b1:((rd x8_2 0) != 1) = true:=bne_iff_ne.mpr c49
                   have H':=zA H
                   clear H
                   obtain ⟨Ao52,co52,eo52⟩:=Kd.R_slice HO_8.out
                   subst eo52
                   have p424:0 ≤ (0:Int):=(by omega)
                   have q424:0 < (x8_2.length:Int):=qd
                   (try (obtain ⟨A_,c_,e_⟩:=Kd.R_slice HO_8.out;subst e_))
                   obtain ⟨ad424,e424,hx424_0⟩:=Kd.at_int (Kd.R_reads' HO_8.out).2.2 0 p424 q424
                   cases e424
                   have qi424:(0 < x8_2.length) = True:=eq_true (by omega)
                   (try rw [show ((0:Int)).toNat = 0 from rfl] at hx424_0)
                   (try rw [Addr.add_zero'] at hx424_0)
                   replace p424:=eq_true p424
                   replace q424:=eq_true q424
                   go_wp2
                   repeat (go_quiet (fail);try go_wp2)
                   go_meet
                   case rel=>exact ⟨_,(0),(false),qr,qr,H',⟨qp HK1 HK2⟩,⟨qb⟩⟩
                 ·rw [if_neg c48] at H
                  exact absurd H (by simp)
                ·rw [if_neg c47] at H
                 have c47b0:(((rd_T65 l0 0).f0) == 8) = false:=beq_eq_false_iff_ne.mpr c47
                 have c47b1:(((rd_T65 l0 0).f0) != 8) = true:=bne_iff_ne.mpr c47
                 by_cases c53:((rd_T65 l0 0).f0) = 9
                 ·rw [if_pos c53] at H
                  have c53b0:(((rd_T65 l0 0).f0) == 9) = true:=beq_iff_eq.mpr c53
                  have c53b1:(((rd_T65 l0 0).f0) != 9) = false:=bne_eq_false_iff_eq.mpr c53
                  clear c53
                  by_cases c54:0 < (x8_2.length:Int)
                  ·rw [if_pos c54] at H
                   have c54b0:decide (0 < (x8_2.length:Int)) = true:=zQ c54
                   have c54b1:decide (0 < x8_2.length) = true:=zQ (by omega)
                   clear c54
                   by_cases c55:(rd x8_2 0) = 1
                   ·rw [if_pos c55] at H
                    have c55b0:((rd x8_2 0) == 1) = true:=beq_iff_eq.mpr c55
                    have c55b1:((rd x8_2 0) != 1) = false:=bne_eq_false_iff_eq.mpr c55
                    clear c55
                    have H':=zA H
                    clear H
                    obtain ⟨Ao56,co56,eo56⟩:=Kd.R_slice HO_8.out
                    subst eo56
                    have p426:0 ≤ (0:Int):=(by omega)
                    have q426:0 < (x8_2.length:Int):=qd
                    (try (obtain ⟨A_,c_,e_⟩:=Kd.R_slice HO_8.out;subst e_))
                    obtain ⟨ad426,e426,hx426_0⟩:=Kd.at_int (Kd.R_reads' HO_8.out).2.2 0 p426 q426
                    cases e426
                    have qi426:(0 < x8_2.length) = True:=eq_true (by omega)
                    (try rw [show ((0:Int)).toNat = 0 from rfl] at hx426_0)
                    (try rw [Addr.add_zero'] at hx426_0)
                    replace p426:=eq_true p426
                    replace q426:=eq_true q426
                    go_wp2
                    repeat (go_quiet (fail);try go_wp2)
                    go_meet
                    case rel=>exact ⟨_,(0),(true),qr,qr,H',⟨qp HK1 HK2⟩,⟨qb⟩⟩
                   ·rw [if_neg c55] at H
                    have c55b0:((rd x8_2 0) == 1) = false:=beq_eq_false_iff_ne.mpr c55
                    have c55b1:((rd x8_2 0) != 1) = true:=bne_iff_ne.mpr c55
                    by_cases c57:1 < (x8_2.length:Int)
                    ·rw [if_pos c57] at H
                     have c57b0:decide (1 < (x8_2.length:Int)) = true:=zQ c57
                     have c57b1:decide (1 < x8_2.length) = true:=zQ (by omega)
                     clear c57
                     have H':=zA H
                     clear H
                     obtain ⟨Ao58,co58,eo58⟩:=Kd.R_slice HO_8.out
                     subst eo58
                     have p426:0 ≤ (0:Int):=(by omega)
                     have q426:0 < (x8_2.length:Int):=qd
                     (try (obtain ⟨A_,c_,e_⟩:=Kd.R_slice HO_8.out;subst e_))
                     obtain ⟨ad426,e426,hx426_0⟩:=Kd.at_int (Kd.R_reads' HO_8.out).2.2 0 p426 q426
                     cases e426
                     have qi426:(0 < x8_2.length) = True:=eq_true (by omega)
                     (try rw [show ((0:Int)).toNat = 0 from rfl] at hx426_0)
                     (try rw [Addr.add_zero'] at hx426_0)
                     replace p426:=eq_true p426
                     replace q426:=eq_true q426
                     have p427:0 ≤ (1:Int):=(by omega)
                     have q427:1 < (x8_2.length:Int):=qd
                     (try (obtain ⟨A_,c_,e_⟩:=Kd.R_slice HO_8.out;subst e_))
                     obtain ⟨ad427,e427,hx427_0⟩:=Kd.at_int (Kd.R_reads' HO_8.out).2.2 1 p427 q427
                     obtain rfl:ad426 = ad427:=(by injection e427)
                     (try simp only [show (1:Int).toNat = 1 from rfl,Nat.reduceMul,Nat.reduceEqDiff,Go.Addr.add,↓reduceIte] at hx427_0)
                     have qi427:(1 < x8_2.length) = True:=eq_true (by omega)
                     (try rw [show ((1:Int)).toNat = 1 from rfl] at hx427_0)
                     replace p427:=eq_true p427
                     replace q427:=eq_true q427
                     go_wp2
                     repeat (go_quiet (fail);try go_wp2)
                     go_meet
                     case rel=>exact ⟨_,(0),(((rd x8_2 1) == 1)),qr,qr,H',⟨qp HK1 HK2⟩,⟨qb⟩⟩
                    ·rw [if_neg c57] at H
                     exact absurd H (by simp)
                  ·rw [if_neg c54] at H
                   exact absurd H (by simp)
                 ·rw [if_neg c53] at H
                  have c53b0:(((rd_T65 l0 0).f0) == 9) = false:=beq_eq_false_iff_ne.mpr c53
                  have c53b1:(((rd_T65 l0 0).f0) != 9) = true:=bne_iff_ne.mpr c53
                  by_cases c59:((rd_T65 l0 0).f0) = 10
                  ·rw [if_pos c59] at H
                   have c59b0:(((rd_T65 l0 0).f0) == 10) = true:=beq_iff_eq.mpr c59
                   have c59b1:(((rd_T65 l0 0).f0) != 10) = false:=bne_eq_false_iff_eq.mpr c59
                   clear c59
                   by_cases c60:0 < (x8_2.length:Int)
                   ·rw [if_pos c60] at H
                    have c60b0:decide (0 < (x8_2.length:Int)) = true:=zQ c60
                    have c60b1:decide (0 < x8_2.length) = true:=zQ (by omega)
                    clear c60
                    have H':=zA H
                    clear H
                    obtain ⟨Ao61,co61,eo61⟩:=Kd.R_slice HO_8.out
                    subst eo61
                    have p428:0 ≤ (0:Int):=(by omega)
                    have q428:0 < (x8_2.length:Int):=qd
                    (try (obtain ⟨A_,c_,e_⟩:=Kd.R_slice HO_8.out;subst e_))
                    obtain ⟨ad428,e428,hx428_0⟩:=Kd.at_int (Kd.R_reads' HO_8.out).2.2 0 p428 q428
                    cases e428
                    have qi428:(0 < x8_2.length) = True:=eq_true (by omega)
                    (try rw [show ((0:Int)).toNat = 0 from rfl] at hx428_0)
                    (try rw [Addr.add_zero'] at hx428_0)
                    replace p428:=eq_true p428
                    replace q428:=eq_true q428
                    go_wp2
                    repeat (go_quiet (fail);try go_wp2)
                    go_meet
                    case rel=>exact ⟨_,(0),(((rd x8_2 0) == 0)),qr,qr,H',⟨qp HK1 HK2⟩,⟨qb⟩⟩
                   ·rw [if_neg c60] at H
                    exact absurd H (by simp)
                  ·rw [if_neg c59] at H
                   have c59b0:(((rd_T65 l0 0).f0) == 10) = false:=beq_eq_false_iff_ne.mpr c59
                   have c59b1:(((rd_T65 l0 0).f0) != 10) = true:=bne_iff_ne.mpr c59
                   by_cases c62:((rd_T65 l0 0).f0) = 11
                   ·rw [if_pos c62] at H
                    have c62b0:(((rd_T65 l0 0).f0) == 11) = true:=beq_iff_eq.mpr c62
                    have c62b1:(((rd_T65 l0 0).f0) != 11) = false:=bne_eq_false_iff_eq.mpr c62
                    clear c62
                    have H':=zA H
                    clear H
                    go_wp2
                    repeat (go_quiet (fail);try go_wp2)
                    go_meet
                    case rel=>exact ⟨_,(0),(true),qr,qr,H',⟨qp HK1 HK2⟩,⟨qb⟩⟩
                   ·rw [if_neg c62] at H
                    have c62b0:(((rd_T65 l0 0).f0) == 11) = false:=beq_eq_false_iff_ne.mpr c62
                    have c62b1:(((rd_T65 l0 0).f0) != 11) = true:=bne_iff_ne.mpr c62
                    have H':=zA H
                    clear H
                    go_wp2
                    repeat (go_quiet (fail);try go_wp2)
                    go_meet
                    case rel=>exact ⟨_,(0),(false),qr,qr,H',⟨qp HK1 HK2⟩,⟨qb⟩⟩
        case rest =>
         clear HC22
         try clear c1
         try clear p1
         try clear q1
         try clear hx1
         try clear c2
         try clear p2
         try clear c3
         try clear c4
         try clear p4
         try clear q4
         try clear hx4
         try clear qi4
         try clear c5
         try clear c6
         try clear p6
         try clear c10
         try clear c10b0
         try clear c11
         try clear c12
         try clear c14
         try clear c14b0
         try clear c14b1
         try clear c15
         try clear p16
         try clear q16
         try clear hx16
         try clear hf16
         try clear c21
         try clear c21b0
         try clear c21b1
         try clear c23
         try clear c23b0
         try clear c23b1
         try clear c24
         try clear c24b0
         try clear c24b1
         try clear c25
         try clear c25b0
         try clear c26
         try clear c26b0
         try clear c27
         try clear c27b0
         try clear c27b1
         try clear c28
         try clear c28b0
         try clear c28b1
         try clear c29
         try clear c29b0
         try clear c29b1
         try clear c31
         try clear c31b0
         try clear c31b1
         try clear c32
         try clear c32b0
         try clear c32b1
         try clear c33
         try clear c33b0
         try clear c33b1
         try clear c35
         try clear c35b0
         try clear c35b1
         try clear c36
         try clear c36b0
         try clear c36b1
         try clear c37
         try clear c37b0
         try clear c37b1
         try clear c39
         try clear c39b0
         try clear c39b1
         try clear c40
         try clear c40b0
         try clear c40b1
         try clear p40
         try clear q40
         try clear hx40
         try clear c41
         try clear c41b0
         try clear c41b1
         try clear p41
         try clear q41
         try clear hx41
         try clear qi41
         try clear p42
         try clear q42
         try clear hx42
         try clear qi42
         try clear c43
         try clear c43b0
         try clear c43b1
         try clear c44
         try clear c44b0
         try clear c44b1
         try clear c45
         try clear c45b0
         try clear c45b1
         try clear c47
         try clear c47b0
         try clear c47b1
         try clear c48
         try clear c48b0
         try clear c48b1
         try clear c49
         try clear c49b0
         try clear c49b1
         try clear c50
         try clear c50b0
         try clear c50b1
         try clear c53
         try clear c53b0
         try clear c53b1
         try clear c54
         try clear c54b0
         try clear c54b1
         try clear c55
         try clear c55b0
         try clear c55b1
         try clear c57
         try clear c57b0
         try clear c57b1
         try clear c59
         try clear c59b0
         try clear c59b1
         try clear c60
         try clear c60b0
         try clear c60b1
         try clear c62
         try clear c62b0
         try clear c62b1
         try clear hx16_0
         try clear hx406_0
         try clear hx410_0
         try clear hx410_1
         try clear hx411_0
         try clear hx411_1
         try clear hx412_0
         try clear hx412_1
         try clear hx413_0
         try clear hx414_0
         try clear hx415_0
         try clear hx416_0
         try clear hx417_0
         try clear hx418_0
         try clear hx419_0
         try clear hx420_0
         try clear hx421_0
         try clear hx422_0
         try clear hx423_0
         try clear hx424_0
         try clear hx425_0
         try clear hx426_0
         try clear hx427_0
         try clear hx428_0
         try clear p16
         try clear p406
         try clear p410
         try clear p411
         try clear p412
         try clear p413
         try clear p414
         try clear p415
         try clear p416
         try clear p417
         try clear p418
         try clear p419
         try clear p420
         try clear p421
         try clear p422
         try clear p423
         try clear p424
         try clear p425
         try clear p426
         try clear p427
         try clear p428
         try clear q16
         try clear q406
         try clear q410
         try clear q411
         try clear q412
         try clear q413
         try clear q414
         try clear q415
         try clear q416
         try clear q417
         try clear q418
         try clear q419
         try clear q420
         try clear q421
         try clear q422
         try clear q423
         try clear q424
         try clear q425
         try clear q426
         try clear q427
         try clear q428
         obtain ⟨kq,x13_21,x14_21,rfl,rfl,HA,HJ21,HB⟩:=hcut
         cases kq with
         | zero=>exact absurd HA.out (by simp [foretellref_worked.j2])
         | succ kj21 =>
          have H:=HA.out
          clear HA
          simp only [foretellref_worked.j2] at H
          by_cases c63:x14_21 = true
          ·subst c63
           have H1:((foretellref_In.f 1 (-1000000) 1000000).bind fun t429=>(if t429 = true then (some (1,0)) else (some (0,8)))) = some (r1,r2):=by rw [if_pos rfl] at H;exact H
           clear H
           have H:=H1
           clear H1
           replace H:=zb.mp H
           obtain ⟨t429,A640,H⟩:=H
           replace H:(if t429 = true then (some (1,0)) else (some (0,8))) = some (r1,r2):=H
           have A64:=zA A640
           clear A640
           by_cases c65:t429 = true
           ·subst c65
            have H1:(some (1,0)) = some (r1,r2):=by rw [if_pos rfl] at H;exact H
            clear H
            have H:=H1
            clear H1
            simp only [Option.some.injEq,Prod.mk.injEq] at H
            obtain ⟨rfl,rfl⟩:=H
            go_wp2_with (first|(go_at_call 50;(with_reducible refine (foretellref_In.calls 1 (-1000000) 1000000 true _ A64.out).mono ?_);rintro e w' ⟨rfl,⟨nd,rfl⟩⟩;(try first|exact ⟨rfl,_,World.drewN_drewN _ _ _⟩|exact ⟨rfl,_,Eq.trans (World.drewN_drewN _ _ _) (congrArg (World.drewN _) (Nat.add_assoc _ _ _))⟩)))
            repeat (go_quiet (first|(go_at_call 50;(with_reducible refine (foretellref_In.calls 1 (-1000000) 1000000 true _ A64.out).mono ?_);rintro e w' ⟨rfl,⟨nd,rfl⟩⟩;(try first|exact ⟨rfl,_,World.drewN_drewN _ _ _⟩|exact ⟨rfl,_,Eq.trans (World.drewN_drewN _ _ _) (congrArg (World.drewN _) (Nat.add_assoc _ _ _))⟩)));try go_wp2_with (first|(go_at_call 50;(with_reducible refine (foretellref_In.calls 1 (-1000000) 1000000 true _ A64.out).mono ?_);rintro e w' ⟨rfl,⟨nd,rfl⟩⟩;(try first|exact ⟨rfl,_,World.drewN_drewN _ _ _⟩|exact ⟨rfl,_,Eq.trans (World.drewN_drewN _ _ _) (congrArg (World.drewN _) (Nat.add_assoc _ _ _))⟩))))
            go_ret2
            exact ⟨qe,qb⟩
           ·replace c65:=Bool.eq_false_iff.mpr c65
            subst c65
            have H1:(some (0,8)) = some (r1,r2):=by rw [if_neg (show ¬ (false = true) by decide)] at H;exact H
            clear H
            have H:=H1
            clear H1
            simp only [Option.some.injEq,Prod.mk.injEq] at H
            obtain ⟨rfl,rfl⟩:=H
            go_wp2_with (first|(go_at_call 50;(with_reducible refine (foretellref_In.calls 1 (-1000000) 1000000 false _ A64.out).mono ?_);rintro e w' ⟨rfl,⟨nd,rfl⟩⟩;(try first|exact ⟨rfl,_,World.drewN_drewN _ _ _⟩|exact ⟨rfl,_,Eq.trans (World.drewN_drewN _ _ _) (congrArg (World.drewN _) (Nat.add_assoc _ _ _))⟩)))
            repeat (go_quiet (first|(go_at_call 50;(with_reducible refine (foretellref_In.calls 1 (-1000000) 1000000 false _ A64.out).mono ?_);rintro e w' ⟨rfl,⟨nd,rfl⟩⟩;(try first|exact ⟨rfl,_,World.drewN_drewN _ _ _⟩|exact ⟨rfl,_,Eq.trans (World.drewN_drewN _ _ _) (congrArg (World.drewN _) (Nat.add_assoc _ _ _))⟩)));try go_wp2_with (first|(go_at_call 50;(with_reducible refine (foretellref_In.calls 1 (-1000000) 1000000 false _ A64.out).mono ?_);rintro e w' ⟨rfl,⟨nd,rfl⟩⟩;(try first|exact ⟨rfl,_,World.drewN_drewN _ _ _⟩|exact ⟨rfl,_,Eq.trans (World.drewN_drewN _ _ _) (congrArg (World.drewN _) (Nat.add_assoc _ _ _))⟩))))
            go_ret2
            exact ⟨qe,qb⟩
          ·replace c63:=Bool.eq_false_iff.mpr c63
           subst c63
           have H1:((foretellref_In.f x13_21 (-1000000) 1000000).bind fun t430=>(if t430 = true then (some (x13_21,0)) else (some (0,8)))) = some (r1,r2):=by rw [if_neg (show ¬ (false = true) by decide)] at H;exact H
           clear H
           have H:=H1
           clear H1
           replace H:=zb.mp H
           obtain ⟨t430,A660,H⟩:=H
           replace H:(if t430 = true then (some (x13_21,0)) else (some (0,8))) = some (r1,r2):=H
           have A66:=zA A660
           clear A660
           by_cases c67:t430 = true
           ·subst c67
            have H1:(some (x13_21,0)) = some (r1,r2):=by rw [if_pos rfl] at H;exact H
            clear H
            have H:=H1
            clear H1
            simp only [Option.some.injEq,Prod.mk.injEq] at H
            obtain ⟨rfl,rfl⟩:=H
            go_wp2_with (first|(go_at_call 50;(with_reducible refine (foretellref_In.calls x13_21 (-1000000) 1000000 true _ A66.out).mono ?_);rintro e w' ⟨rfl,⟨nd,rfl⟩⟩;(try first|exact ⟨rfl,_,World.drewN_drewN _ _ _⟩|exact ⟨rfl,_,Eq.trans (World.drewN_drewN _ _ _) (congrArg (World.drewN _) (Nat.add_assoc _ _ _))⟩)))
            repeat (go_quiet (first|(go_at_call 50;(with_reducible refine (foretellref_In.calls x13_21 (-1000000) 1000000 true _ A66.out).mono ?_);rintro e w' ⟨rfl,⟨nd,rfl⟩⟩;(try first|exact ⟨rfl,_,World.drewN_drewN _ _ _⟩|exact ⟨rfl,_,Eq.trans (World.drewN_drewN _ _ _) (congrArg (World.drewN _) (Nat.add_assoc _ _ _))⟩)));try go_wp2_with (first|(go_at_call 50;(with_reducible refine (foretellref_In.calls x13_21 (-1000000) 1000000 true _ A66.out).mono ?_);rintro e w' ⟨rfl,⟨nd,rfl⟩⟩;(try first|exact ⟨rfl,_,World.drewN_drewN _ _ _⟩|exact ⟨rfl,_,Eq.trans (World.drewN_drewN _ _ _) (congrArg (World.drewN _) (Nat.add_assoc _ _ _))⟩))))
            go_ret2
            exact ⟨qe,qb⟩
           ·replace c67:=Bool.eq_false_iff.mpr c67
            subst c67
            have H1:(some (0,8)) = some (r1,r2):=by rw [if_neg (show ¬ (false = true) by decide)] at H;exact H
            clear H
            have H:=H1
            clear H1
            simp only [Option.some.injEq,Prod.mk.injEq] at H
            obtain ⟨rfl,rfl⟩:=H
            go_wp2_with (first|(go_at_call 50;(with_reducible refine (foretellref_In.calls x13_21 (-1000000) 1000000 false _ A66.out).mono ?_);rintro e w' ⟨rfl,⟨nd,rfl⟩⟩;(try first|exact ⟨rfl,_,World.drewN_drewN _ _ _⟩|exact ⟨rfl,_,Eq.trans (World.drewN_drewN _ _ _) (congrArg (World.drewN _) (Nat.add_assoc _ _ _))⟩)))
            repeat (go_quiet (first|(go_at_call 50;(with_reducible refine (foretellref_In.calls x13_21 (-1000000) 1000000 false _ A66.out).mono ?_);rintro e w' ⟨rfl,⟨nd,rfl⟩⟩;(try first|exact ⟨rfl,_,World.drewN_drewN _ _ _⟩|exact ⟨rfl,_,Eq.trans (World.drewN_drewN _ _ _) (congrArg (World.drewN _) (Nat.add_assoc _ _ _))⟩)));try go_wp2_with (first|(go_at_call 50;(with_reducible refine (foretellref_In.calls x13_21 (-1000000) 1000000 false _ A66.out).mono ?_);rintro e w' ⟨rfl,⟨nd,rfl⟩⟩;(try first|exact ⟨rfl,_,World.drewN_drewN _ _ _⟩|exact ⟨rfl,_,Eq.trans (World.drewN_drewN _ _ _) (congrArg (World.drewN _) (Nat.add_assoc _ _ _))⟩))))
            go_ret2
            exact ⟨qe,qb⟩
       ·rw [if_neg c21] at H
        exact absurd H (by simp)
end Go.Proofs.YthffpjkkmkjplaaDoor.S
namespace Go.Proofs.YthffpjkkmkjplaaDoor.S
open Go.Proofs.YthffpjkkmkjplaaDoor.Al
open Option renaming bind_eq_some_iff → zb
open Go.Proofs.YthffpjkkmkjplaaDoorW.PrintWords renaming below_step → zH, gate_callee → zU
open Go.Proofs.YthffpjkkmkjplaaDoor.Sq
open Go.RowKit Go.Proofs.YthffpjkkmkjplaaDoorW.PrintWords Go.Proofs.YthffpjkkmkjplaaDoorW.PrintLast Go.Proofs.YthffpjkkmkjplaaDoorW.PrintMore
attribute [local go_sem] max2_int min2_int max_two min_two max_three min_three max_four min_four
set_option linter.unusedVariables false
set_option linter.unusedSimpArgs false
def foretellref_Evaluated.l0:Nat → List (S65) → List Int → Int → Option (Int × Int)
 | 0,_,_,_=>none
 | k + 1,x0,x1,x8=>if x8 < (x1.length:Int) then (if 0 ≤ x8 then ((foretellref_In.f (rd x1 x8) (-1000000) 1000000).bind fun t434=>(if t434 = true then (foretellref_Evaluated.l0 k x0 x1 (wrap64 (x8 + 1))) else (some (0,2)))) else (none)) else ((foretellref_worked.f k x0 x1).bind fun bt435=>(some (bt435.1,bt435.2)))
def foretellref_Evaluated.f (k:Nat) (l0:List (S65)) (l1:List Int):Option (Int × Int):=(foretellref_ExprChecked.f k l0 (l1.length:Int)).bind fun bt431=>(if bt431.2 = 0 then (foretellref_Evaluated.l0 k l0 l1 0) else (some (0,bt431.2)))
theorem foretellref_Evaluated.mono_l:∀ k,(∀ y0 y1 y2,LeO (foretellref_Evaluated.l0 k y0 y1 y2) (foretellref_Evaluated.l0 (k + 1) y0 y1 y2))
 | 0=>fun _ _ _ r h=>by simp [foretellref_Evaluated.l0] at h
 | k + 1=>by
  have ih0:=foretellref_Evaluated.mono_l k
  ·intro y0 y1 y2
   unfold foretellref_Evaluated.l0
   exact qM (And.intro @foretellref_ExprChecked.mono @foretellref_worked.mono)
theorem foretellref_Evaluated.mono:∀ a0 a1 k,LeO (foretellref_Evaluated.f k a0 a1) (foretellref_Evaluated.f (k + 1) a0 a1):=by
 intro a0 a1 k
 have ih0:=foretellref_Evaluated.mono_l k
 unfold foretellref_Evaluated.f
 exact qM (And.intro @foretellref_ExprChecked.mono @foretellref_worked.mono)
set_option maxHeartbeats 8000000 in
set_option maxRecDepth 100000 in
theorem foretellref_Evaluated.calls (k:Nat) (A0:Option Addr) (c0:Nat) (l0:List (S65)) (A1:Option Addr) (c1:Nat) (l1:List Int) (r1:Int) (r2:Int) (w:World) (hr0:Kd.C k65 w A0 l0.length l0) (hc0:l0.length ≤ c0) (hr1:Kd.C (Kd.int .i64) w A1 l1.length l1) (hc1:l1.length ≤ c1) (h:foretellref_Evaluated.f k l0 l1 = some (r1,r2)) :
  Calls Tryd.prog 60 #[.slice A0 l0.length c0,.slice A1 l1.length c1] w fun e w'=>e = .returned (.tuple #[.int .i64 r1,.int .i64 r2])∧Below w.heap.size w w':=by
 have HR0:=zA hr0
 have HC0:=zA hc0
 clear hr0 hc0
 have HR1:=zA hr1
 have HC1:=zA hc1
 clear hr1 hc1
 have HB:=zA (Below.refl w.heap.size w)
 have H:((foretellref_ExprChecked.f k l0 (l1.length:Int)).bind fun bt431=>(if bt431.2 = 0 then (foretellref_Evaluated.l0 k l0 l1 0) else (some (0,bt431.2)))) = some (r1,r2):=h
 clear h
 replace H:=zb.mp H
 obtain ⟨⟨t431,t432⟩,A30,H⟩:=H
 replace H:(if t432 = 0 then (foretellref_Evaluated.l0 k l0 l1 0) else (some (0,t432))) = some (r1,r2):=H
 have A3:=zA A30
 clear A30
 by_cases c4:t432 = 0
 ·rw [if_pos c4] at H
  have c4b0:(t432 == 0) = true:=beq_iff_eq.mpr c4
  have c4b1:(t432 != 0) = false:=bne_eq_false_iff_eq.mpr c4
  clear c4
  have H':=zA H
  clear H
  go_enter Tryd.func60,Tryd.ntmps60
  go_wp2_with (first|((with_reducible refine zU (f:=89) rfl ?_);refine gL (some 15) Tryd.func89 #[.slice A0 l0.length c0,.int .i64 (l1.length:Int)] ?_;(with_reducible refine (foretellref_ExprChecked.calls k _ _ l0 (l1.length:Int) t431 t432 _ (qu HR0.out) HC0.out A3.out).mono ?_);rintro e w5 ⟨rfl,hb⟩;refine ⟨_,rfl,?_⟩;replace HB:=zA (zH qb hb);clear hb))
  go_loopg [8] k (fun kq v8 w'=>∃ (x8_1:Int),v8 = .int .i64 x8_1∧Aside0 (foretellref_Evaluated.l0 kq l0 l1 x8_1 = some (r1,r2))∧Aside0 (kq ≤ k)∧Aside0 (Below w.heap.size w w'))
  case atStart=>exact ⟨(0),qr,H',⟨Nat.le_refl _⟩,⟨qb⟩⟩
  case round =>
   clear H'
   try clear c1
   try clear p2
   try clear c4
   try clear c4b0
   try clear c4b1
   obtain ⟨x8_1,rfl,HA,HK1,HB⟩:=hrel
   cases gk with
   | zero=>exact absurd HA.out (by simp [foretellref_Evaluated.l0])
   | succ k1 =>
    have H:=HA.out
    clear HA
    simp only [foretellref_Evaluated.l0] at H
    rcases qj H with ⟨c6b0,H⟩|⟨c6b0,H⟩
    ·rcases qj H with ⟨c7b0,H⟩|⟨c7,H⟩
     ·replace H:=zb.mp H
      obtain ⟨t434,A80,H⟩:=H
      replace H:(if t434 = true then (foretellref_Evaluated.l0 k1 l0 l1 (wrap64 (x8_1 + 1))) else (some (0,2))) = some (r1,r2):=H
      have A8:=zA A80
      clear A80
      by_cases c9:t434 = true
      ·subst c9
       have H1:(foretellref_Evaluated.l0 k1 l0 l1 (wrap64 (x8_1 + 1))) = some (r1,r2):=by rw [if_pos rfl] at H;exact H
       clear H
       have H:=H1
       clear H1
       have H':=zA H
       clear H
       have p433:0 ≤ (x8_1:Int):=qd
       have q433:x8_1 < (l1.length:Int):=qd
       obtain ⟨ad433,e433,hx433_0⟩:=Kd.at_int HR1.out x8_1 p433 q433
       cases e433
       replace hx433_0:=qy HB hx433_0
       replace p433:=eq_true p433
       replace q433:=eq_true q433
       go_wp2_with (first|((with_reducible refine zU (f:=50) rfl ?_);refine gL (some 31) Tryd.func50 #[.int .i64 (rd l1 x8_1),.int .i64 (-1000000),.int .i64 1000000] ?_;(with_reducible refine (foretellref_In.calls (rd l1 x8_1) (-1000000) 1000000 true _ A8.out).mono ?_);rintro e w' ⟨rfl,⟨nd,rfl⟩⟩;refine ⟨_,rfl,?_⟩))
       go_roundg k1
       case measure=>have:=HK1.out;omega
       case rel=>exact ⟨(wrap64 (x8_1 + 1)),qr,H',⟨qo HK1⟩,⟨qb⟩⟩
      ·replace c9:=Bool.eq_false_iff.mpr c9
       subst c9
       have H1:(some (0,2)) = some (r1,r2):=by rw [if_neg (show ¬ (false = true) by decide)] at H;exact H
       clear H
       have H:=H1
       clear H1
       simp only [Option.some.injEq,Prod.mk.injEq] at H
       obtain ⟨rfl,rfl⟩:=H
       have p433:0 ≤ (x8_1:Int):=qd
       have q433:x8_1 < (l1.length:Int):=qd
       obtain ⟨ad433,e433,hx433_0⟩:=Kd.at_int HR1.out x8_1 p433 q433
       cases e433
       replace hx433_0:=qy HB hx433_0
       replace p433:=eq_true p433
       replace q433:=eq_true q433
       go_wp2_with (first|((with_reducible refine zU (f:=50) rfl ?_);refine gL (some 31) Tryd.func50 #[.int .i64 (rd l1 x8_1),.int .i64 (-1000000),.int .i64 1000000] ?_;(with_reducible refine (foretellref_In.calls (rd l1 x8_1) (-1000000) 1000000 false _ A8.out).mono ?_);rintro e w' ⟨rfl,⟨nd,rfl⟩⟩;refine ⟨_,rfl,?_⟩))
       go_ret2
       exact ⟨qe,qb⟩
     ·exact absurd H (by simp)
    ·replace H:=zb.mp H
     obtain ⟨⟨t435,t436⟩,A100,H⟩:=H
     replace H:(some (t435,t436)) = some (r1,r2):=H
     have A10:=zA A100
     clear A100
     simp only [Option.some.injEq,Prod.mk.injEq] at H
     obtain ⟨rfl,rfl⟩:=H
     go_wp2_with (first|((with_reducible refine zU (f:=90) rfl ?_);refine gL (some 36) Tryd.func90 #[.slice A0 l0.length c0,.slice A1 l1.length c1] ?_;(with_reducible refine (foretellref_worked.calls k1 _ _ l0 _ _ l1 t435 t436 _ (qc HR0) HC0.out (qc HR1) HC1.out A10.out).mono ?_);rintro e w11 ⟨rfl,hb⟩;refine ⟨_,rfl,?_⟩;replace HB:=zA (zH qb hb);clear hb))
     go_ret2
     exact ⟨qe,qb⟩
 ·rw [if_neg c4] at H
  have c4b0:(t432 == 0) = false:=beq_eq_false_iff_ne.mpr c4
  have c4b1:(t432 != 0) = true:=bne_iff_ne.mpr c4
  simp only [Option.some.injEq,Prod.mk.injEq] at H
  obtain ⟨rfl,rfl⟩:=H
  go_enter Tryd.func60,Tryd.ntmps60
  go_wp2_with (first|((with_reducible refine zU (f:=89) rfl ?_);refine gL (some 15) Tryd.func89 #[.slice A0 l0.length c0,.int .i64 (l1.length:Int)] ?_;(with_reducible refine (foretellref_ExprChecked.calls k _ _ l0 (l1.length:Int) t431 t432 _ (qu HR0.out) HC0.out A3.out).mono ?_);rintro e w12 ⟨rfl,hb⟩;refine ⟨_,rfl,?_⟩;replace HB:=zA (zH qb hb);clear hb))
  go_ret2
  exact ⟨qe,qb⟩
end Go.Proofs.YthffpjkkmkjplaaDoor.S
namespace Go.Proofs.YthffpjkkmkjplaaDoor.S
open Go.Proofs.YthffpjkkmkjplaaDoor.Al
open Option renaming bind_eq_some_iff → zb
open Go.Proofs.YthffpjkkmkjplaaDoorW.PrintWords renaming below_step → zH, blk_frozen → zJ, gate_callee → zU, gate_dst → zV
open Go.Proofs.YthffpjkkmkjplaaDoor.Sq
open Go.RowKit Go.Proofs.YthffpjkkmkjplaaDoorW.PrintWords Go.Proofs.YthffpjkkmkjplaaDoorW.PrintLast Go.Proofs.YthffpjkkmkjplaaDoorW.PrintMore
attribute [local go_sem] max2_int min2_int max_two min_two max_three min_three max_four min_four
set_option linter.unusedVariables false
set_option linter.unusedSimpArgs false
def foretellref_LetterOf.l0:Nat → List (List (S65)) → List Int → List Bool → Int → Option (List Bool × Int)
 | 0,_,_,_,_=>none
 | k + 1,x1,x9,x10,x11=>if x11 < (x1.length:Int) then (if 0 ≤ x11 then ((foretellref_Evaluated.f k (rd_L4 x1 x11) x9).bind fun bt444=>(if bt444.2 = 0 then (if x10.length < 140737488355328 then (foretellref_LetterOf.l0 k x1 x9 (x10 ++ [(bt444.1 == 1)]) (wrap64 (x11 + 1))) else (none)) else (if x10.length < 140737488355328 then (foretellref_LetterOf.l0 k x1 x9 (x10 ++ [false]) (wrap64 (x11 + 1))) else (none)))) else (none)) else (some (x10,0))
def foretellref_LetterOf.f (k:Nat) (l0_0:List (S86)) (l0_1:List (S93)) (l1:List (List (S65))) (a2:Int):Option (List Bool × Int):=(foretellref_PropsFault.f k l0_0 l0_1 l1).bind fun t438=>(if t438 = 0 then ((foretellref_ValuesOf.f k l0_0 l0_1 a2).bind fun bt439=>(if bt439.2 = 0 then (foretellref_LetterOf.l0 k l1 bt439.1 ([]:List Bool) 0) else (some (([]:List Bool),bt439.2)))) else (some (([]:List Bool),t438)))
theorem foretellref_LetterOf.mono_l:∀ k,(∀ y0 y1 y2 y3,LeO (foretellref_LetterOf.l0 k y0 y1 y2 y3) (foretellref_LetterOf.l0 (k + 1) y0 y1 y2 y3))
 | 0=>fun _ _ _ _ r h=>by simp [foretellref_LetterOf.l0] at h
 | k + 1=>by
  have ih0:=foretellref_LetterOf.mono_l k
  ·intro y0 y1 y2 y3
   unfold foretellref_LetterOf.l0
   exact qM (And.intro @foretellref_Evaluated.mono (And.intro @foretellref_PropsFault.mono @foretellref_ValuesOf.mono))
theorem foretellref_LetterOf.mono:∀ a0 a1 a2 a3 k,LeO (foretellref_LetterOf.f k a0 a1 a2 a3) (foretellref_LetterOf.f (k + 1) a0 a1 a2 a3):=by
 intro a0 a1 a2 a3 k
 have ih0:=foretellref_LetterOf.mono_l k
 unfold foretellref_LetterOf.f
 exact qM (And.intro @foretellref_Evaluated.mono (And.intro @foretellref_PropsFault.mono @foretellref_ValuesOf.mono))
set_option maxHeartbeats 8000000 in
set_option maxRecDepth 100000 in
theorem foretellref_LetterOf.calls (k:Nat) (A0_0:Option Addr) (c0_0:Nat) (l0_0:List (S86)) (A0_1:Option Addr) (c0_1:Nat) (l0_1:List (S93)) (A1:Option Addr) (c1:Nat) (l1:List (List (S65))) (a2:Int) (r1:List Bool) (r2:Int) (w:World) (hr0_0:Kd.C k86 w A0_0 l0_0.length l0_0) (hc0_0:l0_0.length ≤ c0_0) (hr0_1:Kd.C k93 w A0_1 l0_1.length l0_1) (hc0_1:l0_1.length ≤ c0_1) (hr1:Kd.C (Kd.slice 65 k65) w A1 l1.length l1) (hc1:l1.length ≤ c1) (h:foretellref_LetterOf.f k l0_0 l0_1 l1 a2 = some (r1,r2)) :
  Calls Tryd.prog 37 #[.agg #[.slice A0_0 l0_0.length c0_0,.slice A0_1 l0_1.length c0_1],.slice A1 l1.length c1,.int .i64 a2] w fun e w'=>∃ v0_:Value,e = .returned (.tuple #[v0_,.int .i64 r2])∧Kd.R Kd.bool 4 w' w.heap.size (fun _=>True) v0_ r1∧Below w.heap.size w w':=by
 have hu44:=Tryd.underlying44
 have HR0_0:=zA hr0_0
 have HC0_0:=zA hc0_0
 clear hr0_0 hc0_0
 have HR0_1:=zA hr0_1
 have HC0_1:=zA hc0_1
 clear hr0_1 hc0_1
 have HR1:=zA hr1
 have HC1:=zA hc1
 clear hr1 hc1
 have HB:=zA (Below.refl w.heap.size w)
 have H:((foretellref_PropsFault.f k l0_0 l0_1 l1).bind fun t438=>(if t438 = 0 then ((foretellref_ValuesOf.f k l0_0 l0_1 a2).bind fun bt439=>(if bt439.2 = 0 then (foretellref_LetterOf.l0 k l1 bt439.1 ([]:List Bool) 0) else (some (([]:List Bool),bt439.2)))) else (some (([]:List Bool),t438)))) = some (r1,r2):=h
 clear h
 replace H:=zb.mp H
 obtain ⟨t438,A40,H⟩:=H
 replace H:(if t438 = 0 then ((foretellref_ValuesOf.f k l0_0 l0_1 a2).bind fun bt439=>(if bt439.2 = 0 then (foretellref_LetterOf.l0 k l1 bt439.1 ([]:List Bool) 0) else (some (([]:List Bool),bt439.2)))) else (some (([]:List Bool),t438))) = some (r1,r2):=H
 have A4:=zA A40
 clear A40
 by_cases c5:t438 = 0
 ·rw [if_pos c5] at H
  have c5b0:(t438 == 0) = true:=beq_iff_eq.mpr c5
  have c5b1:(t438 != 0) = false:=bne_eq_false_iff_eq.mpr c5
  clear c5
  replace H:=zb.mp H
  obtain ⟨⟨t439,t442⟩,A60,H⟩:=H
  replace H:(if t442 = 0 then (foretellref_LetterOf.l0 k l1 t439 ([]:List Bool) 0) else (some (([]:List Bool),t442))) = some (r1,r2):=H
  have A6:=zA A60
  clear A60
  by_cases c7:t442 = 0
  ·rw [if_pos c7] at H
   have c7b0:(t442 == 0) = true:=beq_iff_eq.mpr c7
   have c7b1:(t442 != 0) = false:=bne_eq_false_iff_eq.mpr c7
   clear c7
   have H':=zA H
   clear H
   go_enter Tryd.func37,Tryd.ntmps37
   go_wp2_with (first|((with_reducible refine zV (N:=3) rfl ?_);refine bq 3 (cs:=#[.slice A0_0 l0_0.length c0_0,.slice A0_1 l0_1.length c0_1]) (t:=44) ?_;intro gb437 hg w8 hbox hb;have BK437:=zA (hbox);have GW437:=zA (qg hg);have GE437:=zA (qg hg);replace HB:=zA (zH qb hb);clear hb hbox hg;have hcz9_0:=qx BK437 0;have hcz9_1:=qx BK437 1;have hfz9_0:=zJ BK437.out 0;have hfz9_1:=zJ BK437.out 1)|((with_reducible refine zU (f:=57) rfl ?_);refine gL (some 16) Tryd.func57 #[.agg #[.slice A0_0 l0_0.length c0_0,.slice A0_1 l0_1.length c0_1],.slice A1 l1.length c1] ?_;(with_reducible refine (foretellref_PropsFault.calls k _ _ l0_0 _ _ l0_1 _ _ l1 t438 _ (qc HR0_0) HC0_0.out (qc HR0_1) HC0_1.out (qc HR1) HC1.out A4.out).mono ?_);rintro e w10 ⟨rfl,hb⟩;refine ⟨_,rfl,?_⟩;replace BK437:=qK BK437 hb;replace HB:=zA (zH qb hb);clear hb;have hcz11_0:=qx BK437 0;have hcz11_1:=qx BK437 1;have hfz11_0:=zJ BK437.out 0;have hfz11_1:=zJ BK437.out 1)|((with_reducible refine zU (f:=59) rfl ?_);refine gL (some 23) Tryd.func59 #[.agg #[.slice A0_0 l0_0.length c0_0,.slice A0_1 l0_1.length c0_1],.int .i64 a2] ?_;(with_reducible refine (foretellref_ValuesOf.calls k _ _ l0_0 _ _ l0_1 a2 t439 t442 _ (qc HR0_0) HC0_0.out (qc HR0_1) HC0_1.out A6.out).mono ?_);rintro e w12 ⟨v440,rfl,ho0,hb⟩;refine ⟨_,rfl,?_⟩;have HO441:=zA (Kd.R_lower ho0 qs);replace BK437:=qK BK437 hb;replace HB:=zA (zH qb hb);clear ho0 hb))
   go_loopg [10,11] k (fun kq v10 v11 w'=>∃ (x10_1:List Bool) (x11_1:Int),v11 = .int .i64 x11_1∧Aside0 (foretellref_LetterOf.l0 kq l1 t439 x10_1 x11_1 = some (r1,r2))∧Aside0 (kq ≤ k)∧Aside0 (Kd.R (Kd.int .i64) 3 w' w.heap.size (fun _=>True) v440 t439)∧Aside0 (Kd.R Kd.bool 4 w' w.heap.size (fun _=>True) v10 x10_1)∧Aside0 (w'.heap[gb437]? = some (.cells #[(.slice A0_0 l0_0.length c0_0),(.slice A0_1 l0_1.length c0_1)] 44 (0,0)))∧Aside0 (Below w.heap.size w w'))
   case atStart=>exact ⟨(([]:List Bool)),(0),qr,H',⟨Nat.le_refl _⟩,⟨qR HO441⟩,⟨ql⟩,⟨qk BK437⟩,⟨qb⟩⟩
   case round =>
    clear H'
    try clear c1
    try clear p2
    try clear c3
    try clear c5
    try clear c5b0
    try clear c5b1
    try clear c7
    try clear c7b0
    try clear c7b1
    try clear hcz11_0
    try clear hcz11_1
    try clear hcz9_0
    try clear hcz9_1
    try clear hfz11_0
    try clear hfz11_1
    try clear hfz9_0
    try clear hfz9_1
    obtain ⟨x10_1,x11_1,rfl,HA,HK1,HO_9,HO_10,BK437,HB⟩:=hrel
    cases gk with
    | zero=>exact absurd HA.out (by simp [foretellref_LetterOf.l0])
    | succ k1 =>
     have H:=HA.out
     clear HA
     simp only [foretellref_LetterOf.l0] at H
     rcases qj H with ⟨c13b0,H⟩|⟨c13b0,H⟩
     ·rcases qj H with ⟨c14b0,H⟩|⟨c14,H⟩
      ·replace H:=zb.mp H
       obtain ⟨⟨t444,t445⟩,A150,H⟩:=H
       replace H:(if t445 = 0 then (if x10_1.length < 140737488355328 then (foretellref_LetterOf.l0 k1 l1 t439 (x10_1 ++ [(t444 == 1)]) (wrap64 (x11_1 + 1))) else (none)) else (if x10_1.length < 140737488355328 then (foretellref_LetterOf.l0 k1 l1 t439 (x10_1 ++ [false]) (wrap64 (x11_1 + 1))) else (none))) = some (r1,r2):=H
       have A15:=zA A150
       clear A150
       by_cases c16:t445 = 0
       ·rw [if_pos c16] at H
        have c16b0:(t445 == 0) = true:=beq_iff_eq.mpr c16
        have c16b1:(t445 != 0) = false:=bne_eq_false_iff_eq.mpr c16
        clear c16
        by_cases c17:x10_1.length < 140737488355328
        ·rw [if_pos c17] at H
         have LMc17:=zA c17
         clear c17
         obtain ⟨y446,hy446⟩:∃ y_:List Bool,y_ = (x10_1 ++ [(t444 == 1)]):=⟨_,rfl⟩
         replace H:(foretellref_LetterOf.l0 k1 l1 t439 y446 (wrap64 (x11_1 + 1))) = some (r1,r2):=by first|(rw [hy446];with_reducible exact H)|(have H2_:=(Option.bind_some _ _).symm.trans H;rw [hy446];with_reducible exact H2_)|(have H2_:=(Option.bind_some _ _).symm.trans H;with_reducible exact H2_)|with_reducible exact H|(rw [hy446];exact H)|exact H
         have Ny446:=zA hy446
         clear hy446
         have H':=zA H
         clear H
         have p443:0 ≤ (x11_1:Int):=qd
         have q443:x11_1 < (l1.length:Int):=qd
         obtain ⟨ad443,A443_0,c443_0,e443,hx443_0,hl443_0,hi443_0⟩:=at_L4 HR1.out x11_1 p443 q443
         cases e443
         replace hx443_0:=qy HB hx443_0
         have HR443_0:=zA hi443_0
         have HC443_0:=zA hl443_0
         clear hi443_0 hl443_0
         replace p443:=eq_true p443
         replace q443:=eq_true q443
         obtain ⟨Ao18,co18,eo18⟩:=Kd.R_slice HO_9.out
         subst eo18
         go_wp2_with (first|((with_reducible refine zU (f:=60) rfl ?_);refine gL (some 41) Tryd.func60 #[.slice A443_0 (rd_L4 l1 x11_1).length c443_0,.slice Ao18 t439.length co18] ?_;(with_reducible refine (foretellref_Evaluated.calls k1 _ _ (rd_L4 l1 x11_1) _ _ t439 t444 t445 _ (qc HR443_0) HC443_0.out (qu (Kd.R_reads' HO_9.out).2.2) ((Kd.R_reads' HO_9.out).2.1) A15.out).mono ?_);rintro e w19 ⟨rfl,hb⟩;refine ⟨_,rfl,?_⟩;replace HO_9:=zA (Kd.R_below (qR HO_9) hb);replace HO_10:=zA (Kd.R_below (qR HO_10) hb);replace BK437:=qK BK437 hb;replace HB:=zA (zH qb hb);clear hb)|((with_reducible refine gate_builtin (b:=.append) (xs:=#[.tmp 44,.tmp 51]) rfl ?_);at_builtin;refine Kd.R_append Kd.bool (w0:=w) w.heap.size rfl (.tmp 44) (.tmp 51) 27 4 (.bool false) 1 rfl Tryd.underlying27 info4 rfl (by decide) (by omega) u10 x10_1 (t444 == 1) [.bool (t444 == 1)] (fun _=>True) (fun _=>False) rfl rfl rfl (fun _ hk=>hk.elim) (fun _ _=>trivial) (qR HO_10) qb qs (qo LMc17) ?_;intro v447 w20 ho hb hg hat;rw [← Ny446.out] at ho;replace HO_9:=zA (Kd.R_over' (qR HO_9) (Kd.R_typed (qR HO_10)) (by decide) hg);replace BK437:=zA (blk_grown (g:=gb437) (o:=.cells #[.slice A0_0 l0_0.length c0_0,.slice A0_1 l0_1.length c0_1] 44 (0,0)) (qk BK437) hg (Kd.R_ne HO_10.out BK437.out (by decide)));replace HB:=zA (hb);have HO448:=zA (ho);clear HO_10;clear ho hb hg hat))
         go_roundg k1
         case measure=>have:=HK1.out;omega
         case rel=>exact ⟨(y446),(wrap64 (x11_1 + 1)),qr,H',⟨qo HK1⟩,⟨qR HO_9⟩,⟨qR HO448⟩,⟨qk BK437⟩,⟨qb⟩⟩
        ·rw [if_neg c17] at H
         exact absurd H (by simp)
       ·rw [if_neg c16] at H
        have c16b0:(t445 == 0) = false:=beq_eq_false_iff_ne.mpr c16
        have c16b1:(t445 != 0) = true:=bne_iff_ne.mpr c16
        by_cases c21:x10_1.length < 140737488355328
        ·rw [if_pos c21] at H
         have LMc21:=zA c21
         clear c21
         obtain ⟨y449,hy449⟩:∃ y_:List Bool,y_ = (x10_1 ++ [false]):=⟨_,rfl⟩
         replace H:(foretellref_LetterOf.l0 k1 l1 t439 y449 (wrap64 (x11_1 + 1))) = some (r1,r2):=by first|(rw [hy449];with_reducible exact H)|(have H2_:=(Option.bind_some _ _).symm.trans H;rw [hy449];with_reducible exact H2_)|(have H2_:=(Option.bind_some _ _).symm.trans H;with_reducible exact H2_)|with_reducible exact H|(rw [hy449];exact H)|exact H
         have Ny449:=zA hy449
         clear hy449
         have H':=zA H
         clear H
         have p443:0 ≤ (x11_1:Int):=qd
         have q443:x11_1 < (l1.length:Int):=qd
         obtain ⟨ad443,A443_0,c443_0,e443,hx443_0,hl443_0,hi443_0⟩:=at_L4 HR1.out x11_1 p443 q443
         cases e443
         replace hx443_0:=qy HB hx443_0
         have HR443_0:=zA hi443_0
         have HC443_0:=zA hl443_0
         clear hi443_0 hl443_0
         replace p443:=eq_true p443
         replace q443:=eq_true q443
         obtain ⟨Ao22,co22,eo22⟩:=Kd.R_slice HO_9.out
         subst eo22
         go_wp2_with (first|((with_reducible refine zU (f:=60) rfl ?_);refine gL (some 41) Tryd.func60 #[.slice A443_0 (rd_L4 l1 x11_1).length c443_0,.slice Ao22 t439.length co22] ?_;(with_reducible refine (foretellref_Evaluated.calls k1 _ _ (rd_L4 l1 x11_1) _ _ t439 t444 t445 _ (qc HR443_0) HC443_0.out (qu (Kd.R_reads' HO_9.out).2.2) ((Kd.R_reads' HO_9.out).2.1) A15.out).mono ?_);rintro e w23 ⟨rfl,hb⟩;refine ⟨_,rfl,?_⟩;replace HO_9:=zA (Kd.R_below (qR HO_9) hb);replace HO_10:=zA (Kd.R_below (qR HO_10) hb);replace BK437:=qK BK437 hb;replace HB:=zA (zH qb hb);clear hb)|((with_reducible refine gate_builtin (b:=.append) (xs:=#[.tmp 44,.tmp 51]) rfl ?_);at_builtin;refine Kd.R_append Kd.bool (w0:=w) w.heap.size rfl (.tmp 44) (.tmp 51) 27 4 (.bool false) 1 rfl Tryd.underlying27 info4 rfl (by decide) (by omega) u10 x10_1 false [.bool false] (fun _=>True) (fun _=>False) rfl rfl rfl (fun _ hk=>hk.elim) (fun _ _=>trivial) (qR HO_10) qb qs (qo LMc21) ?_;intro v450 w24 ho hb hg hat;rw [← Ny449.out] at ho;replace HO_9:=zA (Kd.R_over' (qR HO_9) (Kd.R_typed (qR HO_10)) (by decide) hg);replace BK437:=zA (blk_grown (g:=gb437) (o:=.cells #[.slice A0_0 l0_0.length c0_0,.slice A0_1 l0_1.length c0_1] 44 (0,0)) (qk BK437) hg (Kd.R_ne HO_10.out BK437.out (by decide)));replace HB:=zA (hb);have HO451:=zA (ho);clear HO_10;clear ho hb hg hat))
         go_roundg k1
         case measure=>have:=HK1.out;omega
         case rel=>exact ⟨(y449),(wrap64 (x11_1 + 1)),qr,H',⟨qo HK1⟩,⟨qR HO_9⟩,⟨qR HO451⟩,⟨qk BK437⟩,⟨qb⟩⟩
        ·rw [if_neg c21] at H
         exact absurd H (by simp)
      ·exact absurd H (by simp)
     ·simp only [Option.some.injEq,Prod.mk.injEq] at H
      obtain ⟨rfl,rfl⟩:=H
      go_wp2
      go_ret2
      exact ⟨_,qe,qR HO_10,qb⟩
  ·rw [if_neg c7] at H
   have c7b0:(t442 == 0) = false:=beq_eq_false_iff_ne.mpr c7
   have c7b1:(t442 != 0) = true:=bne_iff_ne.mpr c7
   simp only [Option.some.injEq,Prod.mk.injEq] at H
   obtain ⟨rfl,rfl⟩:=H
   go_enter Tryd.func37,Tryd.ntmps37
   go_wp2_with (first|((with_reducible refine zV (N:=3) rfl ?_);refine bq 3 (cs:=#[.slice A0_0 l0_0.length c0_0,.slice A0_1 l0_1.length c0_1]) (t:=44) ?_;intro gb437 hg w25 hbox hb;have BK437:=zA (hbox);have GW437:=zA (qg hg);have GE437:=zA (qg hg);replace HB:=zA (zH qb hb);clear hb hbox hg;have hcz26_0:=qx BK437 0;have hcz26_1:=qx BK437 1;have hfz26_0:=zJ BK437.out 0;have hfz26_1:=zJ BK437.out 1)|((with_reducible refine zU (f:=57) rfl ?_);refine gL (some 16) Tryd.func57 #[.agg #[.slice A0_0 l0_0.length c0_0,.slice A0_1 l0_1.length c0_1],.slice A1 l1.length c1] ?_;(with_reducible refine (foretellref_PropsFault.calls k _ _ l0_0 _ _ l0_1 _ _ l1 t438 _ (qc HR0_0) HC0_0.out (qc HR0_1) HC0_1.out (qc HR1) HC1.out A4.out).mono ?_);rintro e w27 ⟨rfl,hb⟩;refine ⟨_,rfl,?_⟩;replace BK437:=qK BK437 hb;replace HB:=zA (zH qb hb);clear hb;have hcz28_0:=qx BK437 0;have hcz28_1:=qx BK437 1;have hfz28_0:=zJ BK437.out 0;have hfz28_1:=zJ BK437.out 1)|((with_reducible refine zU (f:=59) rfl ?_);refine gL (some 23) Tryd.func59 #[.agg #[.slice A0_0 l0_0.length c0_0,.slice A0_1 l0_1.length c0_1],.int .i64 a2] ?_;(with_reducible refine (foretellref_ValuesOf.calls k _ _ l0_0 _ _ l0_1 a2 t439 t442 _ (qc HR0_0) HC0_0.out (qc HR0_1) HC0_1.out A6.out).mono ?_);rintro e w29 ⟨v440,rfl,ho0,hb⟩;refine ⟨_,rfl,?_⟩;have HO441:=zA (Kd.R_lower ho0 qs);replace BK437:=qK BK437 hb;replace HB:=zA (zH qb hb);clear ho0 hb))
   go_ret2
   exact ⟨_,qe,ql,qb⟩
 ·rw [if_neg c5] at H
  have c5b0:(t438 == 0) = false:=beq_eq_false_iff_ne.mpr c5
  have c5b1:(t438 != 0) = true:=bne_iff_ne.mpr c5
  simp only [Option.some.injEq,Prod.mk.injEq] at H
  obtain ⟨rfl,rfl⟩:=H
  go_enter Tryd.func37,Tryd.ntmps37
  go_wp2_with (first|((with_reducible refine zV (N:=3) rfl ?_);refine bq 3 (cs:=#[.slice A0_0 l0_0.length c0_0,.slice A0_1 l0_1.length c0_1]) (t:=44) ?_;intro gb437 hg w30 hbox hb;have BK437:=zA (hbox);have GW437:=zA (qg hg);have GE437:=zA (qg hg);replace HB:=zA (zH qb hb);clear hb hbox hg;have hcz31_0:=qx BK437 0;have hcz31_1:=qx BK437 1;have hfz31_0:=zJ BK437.out 0;have hfz31_1:=zJ BK437.out 1)|((with_reducible refine zU (f:=57) rfl ?_);refine gL (some 16) Tryd.func57 #[.agg #[.slice A0_0 l0_0.length c0_0,.slice A0_1 l0_1.length c0_1],.slice A1 l1.length c1] ?_;(with_reducible refine (foretellref_PropsFault.calls k _ _ l0_0 _ _ l0_1 _ _ l1 t438 _ (qc HR0_0) HC0_0.out (qc HR0_1) HC0_1.out (qc HR1) HC1.out A4.out).mono ?_);rintro e w32 ⟨rfl,hb⟩;refine ⟨_,rfl,?_⟩;replace BK437:=qK BK437 hb;replace HB:=zA (zH qb hb);clear hb))
  go_ret2
  exact ⟨_,qe,ql,qb⟩
end Go.Proofs.YthffpjkkmkjplaaDoor.S
namespace Go.Proofs.YthffpjkkmkjplaaDoor.S
open Go.Proofs.YthffpjkkmkjplaaDoor.Al
open Option renaming bind_eq_some_iff → zb
open Go.Proofs.YthffpjkkmkjplaaDoorW.PrintWords renaming below_step → zH, gate_callee → zU
open Go.Proofs.YthffpjkkmkjplaaDoor.Sq
open Go.RowKit Go.Proofs.YthffpjkkmkjplaaDoorW.PrintWords Go.Proofs.YthffpjkkmkjplaaDoorW.PrintLast Go.Proofs.YthffpjkkmkjplaaDoorW.PrintMore
attribute [local go_sem] max2_int min2_int max_two min_two max_three min_three max_four min_four
set_option linter.unusedVariables false
set_option linter.unusedSimpArgs false
def foretellref_AheadOf.l0:Nat → List (S65) → List Int → Int → Option (List Int × Int)
 | 0,_,_,_=>none
 | k + 1,x0,x7,x8=>if x8 < (x0.length:Int) then (if 0 ≤ x8 then ((foretellref_looksAhead.f ((rd_T65 x0 x8).f0)).bind fun t454=>(if t454 = true then (if x7.length < 17592186044416 then (foretellref_AheadOf.l0 k x0 (x7 ++ [x8]) (wrap64 (x8 + 1))) else (none)) else (foretellref_AheadOf.l0 k x0 x7 (wrap64 (x8 + 1))))) else (none)) else (some (x7,0))
def foretellref_AheadOf.f (k:Nat) (l0:List (S65)) (a1:Int):Option (List Int × Int):=(foretellref_FormulaFault.f k l0 a1).bind fun t452=>(if t452 = 0 then (foretellref_AheadOf.l0 k l0 ([]:List Int) 0) else (some (([]:List Int),t452)))
theorem foretellref_AheadOf.mono_l:∀ k,(∀ y0 y1 y2,LeO (foretellref_AheadOf.l0 k y0 y1 y2) (foretellref_AheadOf.l0 (k + 1) y0 y1 y2))
 | 0=>fun _ _ _ r h=>by simp [foretellref_AheadOf.l0] at h
 | k + 1=>by
  have ih0:=foretellref_AheadOf.mono_l k
  ·intro y0 y1 y2
   unfold foretellref_AheadOf.l0
   exact qM @foretellref_FormulaFault.mono
theorem foretellref_AheadOf.mono:∀ a0 a1 k,LeO (foretellref_AheadOf.f k a0 a1) (foretellref_AheadOf.f (k + 1) a0 a1):=by
 intro a0 a1 k
 have ih0:=foretellref_AheadOf.mono_l k
 unfold foretellref_AheadOf.f
 exact qM @foretellref_FormulaFault.mono
set_option maxHeartbeats 8000000 in
set_option maxRecDepth 100000 in
theorem foretellref_AheadOf.calls (k:Nat) (A0:Option Addr) (c0:Nat) (l0:List (S65)) (a1:Int) (r1:List Int) (r2:Int) (w:World) (hr0:Kd.C k65 w A0 l0.length l0) (hc0:l0.length ≤ c0) (h:foretellref_AheadOf.f k l0 a1 = some (r1,r2)) :
  Calls Tryd.prog 61 #[.slice A0 l0.length c0,.int .i64 a1] w fun e w'=>∃ v0_:Value,e = .returned (.tuple #[v0_,.int .i64 r2])∧Kd.R (Kd.int .i64) 3 w' w.heap.size (fun _=>True) v0_ r1∧Below w.heap.size w w':=by
 have HR0:=zA hr0
 have HC0:=zA hc0
 clear hr0 hc0
 have HB:=zA (Below.refl w.heap.size w)
 have H:((foretellref_FormulaFault.f k l0 a1).bind fun t452=>(if t452 = 0 then (foretellref_AheadOf.l0 k l0 ([]:List Int) 0) else (some (([]:List Int),t452)))) = some (r1,r2):=h
 clear h
 replace H:=zb.mp H
 obtain ⟨t452,A30,H⟩:=H
 replace H:(if t452 = 0 then (foretellref_AheadOf.l0 k l0 ([]:List Int) 0) else (some (([]:List Int),t452))) = some (r1,r2):=H
 have A3:=zA A30
 clear A30
 by_cases c4:t452 = 0
 ·rw [if_pos c4] at H
  have c4b0:(t452 == 0) = true:=beq_iff_eq.mpr c4
  have c4b1:(t452 != 0) = false:=bne_eq_false_iff_eq.mpr c4
  clear c4
  have H':=zA H
  clear H
  go_enter Tryd.func61,Tryd.ntmps61
  go_wp2_with (first|((with_reducible refine zU (f:=46) rfl ?_);refine gL (some 11) Tryd.func46 #[.slice A0 l0.length c0,.int .i64 a1] ?_;(with_reducible refine (foretellref_FormulaFault.calls k _ _ l0 a1 t452 _ (qu HR0.out) HC0.out A3.out).mono ?_);rintro e w5 ⟨rfl,hb⟩;refine ⟨_,rfl,?_⟩;replace HB:=zA (zH qb hb);clear hb))
  go_loopg [7,8] k (fun kq v7 v8 w'=>∃ (x7_1:List Int) (x8_1:Int),v8 = .int .i64 x8_1∧Aside0 (foretellref_AheadOf.l0 kq l0 x7_1 x8_1 = some (r1,r2))∧Aside0 (kq ≤ k)∧Aside0 (Kd.R (Kd.int .i64) 3 w' w.heap.size (fun _=>True) v7 x7_1)∧Aside0 (Below w.heap.size w w'))
  case atStart=>exact ⟨(([]:List Int)),(0),qr,H',⟨Nat.le_refl _⟩,⟨ql⟩,⟨qb⟩⟩
  case round =>
   clear H'
   try clear p2
   try clear c4
   try clear c4b0
   try clear c4b1
   obtain ⟨x7_1,x8_1,rfl,HA,HK1,HO_7,HB⟩:=hrel
   cases gk with
   | zero=>exact absurd HA.out (by simp [foretellref_AheadOf.l0])
   | succ k1 =>
    have H:=HA.out
    clear HA
    simp only [foretellref_AheadOf.l0] at H
    rcases qj H with ⟨c6b0,H⟩|⟨c6b0,H⟩
    ·rcases qj H with ⟨c7b0,H⟩|⟨c7,H⟩
     ·replace H:=zb.mp H
      obtain ⟨t454,A80,H⟩:=H
      replace H:(if t454 = true then (if x7_1.length < 17592186044416 then (foretellref_AheadOf.l0 k1 l0 (x7_1 ++ [x8_1]) (wrap64 (x8_1 + 1))) else (none)) else (foretellref_AheadOf.l0 k1 l0 x7_1 (wrap64 (x8_1 + 1)))) = some (r1,r2):=H
      have A8:=zA A80
      clear A80
      by_cases c9:t454 = true
      ·subst c9
       have H1:(if x7_1.length < 17592186044416 then (foretellref_AheadOf.l0 k1 l0 (x7_1 ++ [x8_1]) (wrap64 (x8_1 + 1))) else (none)) = some (r1,r2):=by rw [if_pos rfl] at H;exact H
       clear H
       have H:=H1
       clear H1
       by_cases c10:x7_1.length < 17592186044416
       ·rw [if_pos c10] at H
        have LMc10:=zA c10
        clear c10
        obtain ⟨y455,hy455⟩:∃ y_:List Int,y_ = (x7_1 ++ [x8_1]):=⟨_,rfl⟩
        replace H:(foretellref_AheadOf.l0 k1 l0 y455 (wrap64 (x8_1 + 1))) = some (r1,r2):=by first|(rw [hy455];with_reducible exact H)|(have H2_:=(Option.bind_some _ _).symm.trans H;rw [hy455];with_reducible exact H2_)|(have H2_:=(Option.bind_some _ _).symm.trans H;with_reducible exact H2_)|with_reducible exact H|(rw [hy455];exact H)|exact H
        have Ny455:=zA hy455
        clear hy455
        have H':=zA H
        clear H
        have p453:0 ≤ (x8_1:Int):=qd
        have q453:x8_1 < (l0.length:Int):=qd
        obtain ⟨ad453,e453,hx453_0,hx453_1⟩:=at_T65 HR0.out x8_1 p453 q453
        cases e453
        replace hx453_0:=qy HB hx453_0
        replace hx453_1:=qy HB hx453_1
        replace p453:=eq_true p453
        replace q453:=eq_true q453
        go_wp2_with (first|((with_reducible refine zU (f:=27) rfl ?_);refine gL (some 26) Tryd.func27 #[.int .i64 ((rd_T65 l0 x8_1).f0)] ?_;(with_reducible refine (foretellref_looksAhead.calls ((rd_T65 l0 x8_1).f0) true _ A8.out).mono ?_);rintro e w' ⟨rfl,⟨nd,rfl⟩⟩;refine ⟨_,rfl,?_⟩)|((with_reducible refine gate_builtin (b:=.append) (xs:=#[.tmp 27,.tmp 29]) rfl ?_);at_builtin;refine Kd.R_append (Kd.int .i64) (w0:=w) w.heap.size rfl (.tmp 27) (.tmp 29) 37 3 (.int .i64 0) 8 rfl Tryd.underlying37 info3 rfl (by decide) (by omega) u7 x7_1 x8_1 [.int .i64 x8_1] (fun _=>True) (fun _=>False) rfl rfl rfl (fun _ hk=>hk.elim) (fun _ _=>trivial) (qR HO_7) qb qs (qo LMc10) ?_;intro v456 w11 ho hb hg hat;rw [← Ny455.out] at ho;replace HB:=zA (hb);have HO457:=zA (ho);clear HO_7;clear ho hb hg hat))
        go_roundg k1
        case measure=>have:=HK1.out;omega
        case rel=>exact ⟨(y455),(wrap64 (x8_1 + 1)),qr,H',⟨qo HK1⟩,⟨qR HO457⟩,⟨qb⟩⟩
       ·rw [if_neg c10] at H
        exact absurd H (by simp)
      ·replace c9:=Bool.eq_false_iff.mpr c9
       subst c9
       have H1:(foretellref_AheadOf.l0 k1 l0 x7_1 (wrap64 (x8_1 + 1))) = some (r1,r2):=by rw [if_neg (show ¬ (false = true) by decide)] at H;exact H
       clear H
       have H:=H1
       clear H1
       have H':=zA H
       clear H
       have p453:0 ≤ (x8_1:Int):=qd
       have q453:x8_1 < (l0.length:Int):=qd
       obtain ⟨ad453,e453,hx453_0,hx453_1⟩:=at_T65 HR0.out x8_1 p453 q453
       cases e453
       replace hx453_0:=qy HB hx453_0
       replace hx453_1:=qy HB hx453_1
       replace p453:=eq_true p453
       replace q453:=eq_true q453
       go_wp2_with (first|((with_reducible refine zU (f:=27) rfl ?_);refine gL (some 26) Tryd.func27 #[.int .i64 ((rd_T65 l0 x8_1).f0)] ?_;(with_reducible refine (foretellref_looksAhead.calls ((rd_T65 l0 x8_1).f0) false _ A8.out).mono ?_);rintro e w' ⟨rfl,⟨nd,rfl⟩⟩;refine ⟨_,rfl,?_⟩))
       go_roundg k1
       case measure=>have:=HK1.out;omega
       case rel=>exact ⟨(x7_1),(wrap64 (x8_1 + 1)),qr,H',⟨qo HK1⟩,⟨qR HO_7⟩,⟨qb⟩⟩
     ·exact absurd H (by simp)
    ·simp only [Option.some.injEq,Prod.mk.injEq] at H
     obtain ⟨rfl,rfl⟩:=H
     go_wp2
     go_ret2
     exact ⟨_,qe,qR HO_7,qb⟩
 ·rw [if_neg c4] at H
  have c4b0:(t452 == 0) = false:=beq_eq_false_iff_ne.mpr c4
  have c4b1:(t452 != 0) = true:=bne_iff_ne.mpr c4
  simp only [Option.some.injEq,Prod.mk.injEq] at H
  obtain ⟨rfl,rfl⟩:=H
  go_enter Tryd.func61,Tryd.ntmps61
  go_wp2_with (first|((with_reducible refine zU (f:=46) rfl ?_);refine gL (some 11) Tryd.func46 #[.slice A0 l0.length c0,.int .i64 a1] ?_;(with_reducible refine (foretellref_FormulaFault.calls k _ _ l0 a1 t452 _ (qu HR0.out) HC0.out A3.out).mono ?_);rintro e w12 ⟨rfl,hb⟩;refine ⟨_,rfl,?_⟩;replace HB:=zA (zH qb hb);clear hb))
  go_ret2
  exact ⟨_,qe,ql,qb⟩
end Go.Proofs.YthffpjkkmkjplaaDoor.S
namespace Go.Proofs.YthffpjkkmkjplaaDoor.S
open Go.Proofs.YthffpjkkmkjplaaDoor.Al
open Option renaming bind_eq_some_iff → zb
open Go.Proofs.YthffpjkkmkjplaaDoorW.PrintWords renaming below_step → zH, blk_frozen → zJ, gate_callee → zU, gate_dst → zV
open Go.Proofs.YthffpjkkmkjplaaDoor.Sq
open Go.RowKit Go.Proofs.YthffpjkkmkjplaaDoorW.PrintWords Go.Proofs.YthffpjkkmkjplaaDoorW.PrintLast Go.Proofs.YthffpjkkmkjplaaDoorW.PrintMore
attribute [local go_sem] max2_int min2_int max_two min_two max_three min_three max_four min_four
set_option linter.unusedVariables false
set_option linter.unusedSimpArgs false
def foretellref_manyClaims.l0:Nat → List Int → Int → Int → Option (Int)
 | 0,_,_,_=>none
 | k + 1,x3,x5,x6=>if x6 < (x3.length:Int) then (foretellref_manyClaims.l0 k x3 (wrap64 (x5 * 2)) (wrap64 (x6 + 1))) else (some x5)
def foretellref_manyClaims.f (k:Nat) (l0_0:List (S86)) (l0_1:List (S93)) (l0_2:List (List (S65))) (l0_3:List (S65)):Option (Int):=(foretellref_AheadOf.f k l0_3 (l0_2.length:Int)).bind fun bt459=>(foretellref_manyClaims.l0 k bt459.1 1 0)
theorem foretellref_manyClaims.mono_l:∀ k,(∀ y0 y1 y2,LeO (foretellref_manyClaims.l0 k y0 y1 y2) (foretellref_manyClaims.l0 (k + 1) y0 y1 y2))
 | 0=>fun _ _ _ r h=>by simp [foretellref_manyClaims.l0] at h
 | k + 1=>by
  have ih0:=foretellref_manyClaims.mono_l k
  ·intro y0 y1 y2
   unfold foretellref_manyClaims.l0
   exact qM @foretellref_AheadOf.mono
theorem foretellref_manyClaims.mono:∀ a0 a1 a2 a3 k,LeO (foretellref_manyClaims.f k a0 a1 a2 a3) (foretellref_manyClaims.f (k + 1) a0 a1 a2 a3):=by
 intro a0 a1 a2 a3 k
 have ih0:=foretellref_manyClaims.mono_l k
 unfold foretellref_manyClaims.f
 exact qM @foretellref_AheadOf.mono
set_option maxHeartbeats 8000000 in
set_option maxRecDepth 100000 in
theorem foretellref_manyClaims.calls (k:Nat) (A0_0:Option Addr) (c0_0:Nat) (l0_0:List (S86)) (A0_1:Option Addr) (c0_1:Nat) (l0_1:List (S93)) (A0_2:Option Addr) (c0_2:Nat) (l0_2:List (List (S65))) (A0_3:Option Addr) (c0_3:Nat) (l0_3:List (S65)) (r:Int) (w:World) (hr0_0:Kd.C k86 w A0_0 l0_0.length l0_0) (hc0_0:l0_0.length ≤ c0_0) (hr0_1:Kd.C k93 w A0_1 l0_1.length l0_1) (hc0_1:l0_1.length ≤ c0_1) (hr0_2:Kd.C (Kd.slice 65 k65) w A0_2 l0_2.length l0_2) (hc0_2:l0_2.length ≤ c0_2) (hr0_3:Kd.C k65 w A0_3 l0_3.length l0_3) (hc0_3:l0_3.length ≤ c0_3) (h:foretellref_manyClaims.f k l0_0 l0_1 l0_2 l0_3 = some r) :
  Calls Tryd.prog 38 #[.agg #[.slice A0_0 l0_0.length c0_0,.slice A0_1 l0_1.length c0_1,.slice A0_2 l0_2.length c0_2,.slice A0_3 l0_3.length c0_3]] w fun e w'=>e = .returned (.int .i64 r)∧Below w.heap.size w w':=by
 have hu47:=Tryd.underlying47
 have HR0_0:=zA hr0_0
 have HC0_0:=zA hc0_0
 clear hr0_0 hc0_0
 have HR0_1:=zA hr0_1
 have HC0_1:=zA hc0_1
 clear hr0_1 hc0_1
 have HR0_2:=zA hr0_2
 have HC0_2:=zA hc0_2
 clear hr0_2 hc0_2
 have HR0_3:=zA hr0_3
 have HC0_3:=zA hc0_3
 clear hr0_3 hc0_3
 have HB:=zA (Below.refl w.heap.size w)
 have H:((foretellref_AheadOf.f k l0_3 (l0_2.length:Int)).bind fun bt459=>(foretellref_manyClaims.l0 k bt459.1 1 0)) = some r:=h
 clear h
 replace H:=zb.mp H
 obtain ⟨⟨t459,t460⟩,A20,H⟩:=H
 replace H:(foretellref_manyClaims.l0 k t459 1 0) = some r:=H
 have A2:=zA A20
 clear A20
 have H':=zA H
 clear H
 go_enter Tryd.func38,Tryd.ntmps38
 go_wp2_with (first|((with_reducible refine zV (N:=1) rfl ?_);refine bq 1 (cs:=#[.slice A0_0 l0_0.length c0_0,.slice A0_1 l0_1.length c0_1,.slice A0_2 l0_2.length c0_2,.slice A0_3 l0_3.length c0_3]) (t:=47) ?_;intro gb458 hg w3 hbox hb;have BK458:=zA (hbox);have GW458:=zA (qg hg);have GE458:=zA (qg hg);replace HB:=zA (zH qb hb);clear hb hbox hg;have hcz4_0:=qx BK458 0;have hcz4_1:=qx BK458 1;have hcz4_2:=qx BK458 2;have hcz4_3:=qx BK458 3;have hfz4_0:=zJ BK458.out 0;have hfz4_1:=zJ BK458.out 1;have hfz4_2:=zJ BK458.out 2;have hfz4_3:=zJ BK458.out 3)|((with_reducible refine zU (f:=61) rfl ?_);refine gL (some 13) Tryd.func61 #[.slice A0_3 l0_3.length c0_3,.int .i64 (l0_2.length:Int)] ?_;(with_reducible refine (foretellref_AheadOf.calls k _ _ l0_3 (l0_2.length:Int) t459 t460 _ (qc HR0_3) HC0_3.out A2.out).mono ?_);rintro e w5 ⟨v461,rfl,ho0,hb⟩;refine ⟨_,rfl,?_⟩;have HO462:=zA (Kd.R_lower ho0 qs);replace BK458:=qK BK458 hb;replace HB:=zA (zH qb hb);clear ho0 hb))
 go_loopg [5,6] k (fun kq v5 v6 w'=>∃ (x5_1:Int) (x6_1:Int),v5 = .int .i64 x5_1∧v6 = .int .i64 x6_1∧Aside0 (foretellref_manyClaims.l0 kq t459 x5_1 x6_1 = some r)∧Aside0 (kq ≤ k)∧Aside0 (Kd.R (Kd.int .i64) 3 w' w.heap.size (fun _=>True) v461 t459)∧Aside0 (w'.heap[gb458]? = some (.cells #[(.slice A0_0 l0_0.length c0_0),(.slice A0_1 l0_1.length c0_1),(.slice A0_2 l0_2.length c0_2),(.slice A0_3 l0_3.length c0_3)] 47 (0,0)))∧Aside0 (Below w.heap.size w w'))
 case atStart=>exact ⟨(1),(0),qr,qr,H',⟨Nat.le_refl _⟩,⟨qR HO462⟩,⟨qk BK458⟩,⟨qb⟩⟩
 case round =>
  clear H'
  try clear p2
  try clear c3
  try clear hcz4_0
  try clear hcz4_1
  try clear hcz4_2
  try clear hcz4_3
  try clear hfz4_0
  try clear hfz4_1
  try clear hfz4_2
  try clear hfz4_3
  obtain ⟨x5_1,x6_1,rfl,rfl,HA,HK1,HO_3,BK458,HB⟩:=hrel
  cases gk with
  | zero=>exact absurd HA.out (by simp [foretellref_manyClaims.l0])
  | succ k1 =>
   have H:=HA.out
   clear HA
   simp only [foretellref_manyClaims.l0] at H
   rcases qj H with ⟨c6b0,H⟩|⟨c6b0,H⟩
   ·have H':=zA H
    clear H
    obtain ⟨Ao7,co7,eo7⟩:=Kd.R_slice HO_3.out
    subst eo7
    go_wp2
    go_roundg k1
    case measure=>have:=HK1.out;omega
    case rel=>exact ⟨(wrap64 (x5_1 * 2)),(wrap64 (x6_1 + 1)),qr,qr,H',⟨qo HK1⟩,⟨qR HO_3⟩,⟨qk BK458⟩,⟨qb⟩⟩
   ·obtain rfl:=Option.some.inj H
    obtain ⟨Ao8,co8,eo8⟩:=Kd.R_slice HO_3.out
    subst eo8
    go_wp2
    go_ret
    exact ⟨qe,qb⟩
end Go.Proofs.YthffpjkkmkjplaaDoor.S
namespace Go.Proofs.YthffpjkkmkjplaaDoor.S
open Go.Proofs.YthffpjkkmkjplaaDoor.Al
open Option renaming bind_eq_some_iff → zb
open Go.Proofs.YthffpjkkmkjplaaDoorW.PrintWords renaming gate_callee → zU
open Go.Proofs.YthffpjkkmkjplaaDoor.Sq
open Go.RowKit Go.Proofs.YthffpjkkmkjplaaDoorW.PrintWords Go.Proofs.YthffpjkkmkjplaaDoorW.PrintLast Go.Proofs.YthffpjkkmkjplaaDoorW.PrintMore
attribute [local go_sem] max2_int min2_int max_two min_two max_three min_three max_four min_four
set_option linter.unusedVariables false
set_option linter.unusedSimpArgs false
def foretellref_secondAt.f (k:Nat) (l0:List (S65)) (a1:Int):Option (Int):=(foretellref_endOf.f k l0 (wrap64 (a1 + 1))).bind fun bt463=>(some bt463.1)
theorem foretellref_secondAt.mono:∀ a0 a1 k,LeO (foretellref_secondAt.f k a0 a1) (foretellref_secondAt.f (k + 1) a0 a1):=by
 intro a0 a1 k
 unfold foretellref_secondAt.f
 exact qM @foretellref_endOf.mono
set_option maxHeartbeats 8000000 in
set_option maxRecDepth 100000 in
theorem foretellref_secondAt.calls (k:Nat) (A0:Option Addr) (c0:Nat) (l0:List (S65)) (a1:Int) (r:Int) (w:World) (hr0:Kd.C k65 w A0 l0.length l0) (hc0:l0.length ≤ c0) (h:foretellref_secondAt.f k l0 a1 = some r) :
  Calls Tryd.prog 77 #[.slice A0 l0.length c0,.int .i64 a1] w fun e w'=>e = .returned (.int .i64 r)∧Drawn0 w w':=by
 have HR0:=zA hr0
 have HC0:=zA hc0
 clear hr0 hc0
 have H:((foretellref_endOf.f k l0 (wrap64 (a1 + 1))).bind fun bt463=>(some bt463.1)) = some r:=h
 clear h
 replace H:=zb.mp H
 obtain ⟨⟨t463,t464⟩,A30,H⟩:=H
 replace H:(some t463) = some r:=H
 have A3:=zA A30
 clear A30
 obtain rfl:=Option.some.inj H
 go_enter Tryd.func77,Tryd.ntmps77
 go_wp2_with (first|((with_reducible refine zU (f:=91) rfl ?_);refine gL (some 11) Tryd.func91 #[.slice A0 l0.length c0,.int .i64 (wrap64 (a1 + 1))] ?_;(with_reducible refine (foretellref_endOf.calls k _ _ l0 (wrap64 (a1 + 1)) t463 t464 _ (qu HR0.out) HC0.out A3.out).mono ?_);rintro e w' ⟨rfl,⟨nd,rfl⟩⟩;refine ⟨_,rfl,?_⟩))
 go_ret
 exact ⟨qr,qt⟩
end Go.Proofs.YthffpjkkmkjplaaDoor.S
