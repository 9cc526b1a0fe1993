import Derived.Test.YtkcghbfmigdomaaKSccLassosG11
namespace Go.Proofs.Ytkcghbfmigdomaa.Q
open Go.Proofs.Ytkcghbfmigdomaa.Al
open Option renaming bind_eq_some_iff → zb
open Go.Proofs.YtkcghbfmigdomaaW.PrintWords renaming below_step → zH, gate_callee → zU, below_alloc → zD, blk_cell → zI, blk_frozen → zJ, blk_alloc → zK, blk_below → zN, Kd.C_below → zT, gate_dst → zV
open Go.World renaming block_lt_of_cell? → zB
open Go.Proofs.Ytkcghbfmigdomaa.Sq Go.RowKit Go.Proofs.YtkcghbfmigdomaaW.PrintWords Go.Proofs.YtkcghbfmigdomaaW.PrintLast Go.Proofs.YtkcghbfmigdomaaW.PrintMore
attribute [local go_sem] max2_int min2_int max_two min_two max_three min_three max_four min_four
set_option linter.unusedVariables false
set_option linter.unusedSimpArgs false
def zAN.l0:Nat → List (List Int) → List (List Int) → Int → Option ((List (List Int)))
 | 0,_,_,_=>none
 | k + 1,x0,x3,x4=>if x4 < (x0.length:Int) then (if 0 ≤ x4 then ((zAU.f (zAE x0 x4)).bind fun t105=>(if x3.length < 5864062014805 then (zAN.l0 k x0 (x3 ++ [t105]) (wrap64 (x4 + 1))) else (none))) else (none)) else (some x3)
def zAN.f (k:Nat) (l0:List (List Int)):Option ((List (List Int))):=zAN.l0 k l0 ([]:List (List Int)) 0
theorem zAN.mono_l:∀ k,(∀ y0 y1 y2,LeO (zAN.l0 k y0 y1 y2) (zAN.l0 (k + 1) y0 y1 y2))
 | 0=>fun _ _ _ r h=>by simp [zAN.l0] at h
 | k + 1=>by
  have ih0:=zAN.mono_l k
  ·intro y0 y1 y2
   unfold zAN.l0
   exact qL
theorem zAN.mono:∀ a0 k,LeO (zAN.f k a0) (zAN.f (k + 1) a0):=by
 intro a0 k;have ih0:=zAN.mono_l k;unfold zAN.f;exact qL
set_option maxHeartbeats 8000000 in
set_option maxRecDepth 100000 in
theorem zAN.calls (k:Nat) (A0:Option Addr) (c0:Nat) (l0:List (List Int)) (r:List (List Int)) (w:World) (hr0:Kd.C (Kd.slice 3 (Kd.int .i64)) w A0 l0.length l0) (hc0:l0.length ≤ c0) (h:zAN.f k l0 = some r) :
  Calls Try.prog 9 #[.slice A0 l0.length c0] w fun e w'=>∃ v0_:Value,e = .returned (v0_)∧Kd.S (Kd.slice 3 (Kd.int .i64)) 24 w' w.heap.size (fun _=>True) v0_ r∧Below w.heap.size w w':=by
 have HR0:=zA hr0;have HC0:=zA hc0;clear hr0 hc0;have HB:=zA (Below.refl w.heap.size w);have H:(zAN.l0 k l0 ([]:List (List Int)) 0) = some r:=h;clear h;have H':=zA H;clear H;go_enter Try.func9,Try.ntmps9;go_wp2;go_loopg [3,4] k (fun kq v3 v4 w'=>∃ (x3_1:List (List Int)) (x4_1:Int),v4 = .int .i64 x4_1∧Aside0 (zAN.l0 kq l0 x3_1 x4_1 = some r)∧Aside0 (kq ≤ k)∧Aside0 (Kd.S (Kd.slice 3 (Kd.int .i64)) 24 w' w.heap.size (fun _=>True) v3 x3_1)∧Aside0 (Below w.heap.size w w'))
 case atStart=>exact ⟨(([]:List (List Int))),(0),qr,H',⟨Nat.le_refl _⟩,⟨by first|exact Kd.S_nil _ _ _ _ _|exact Kd.N_nil _ _ _ _ _|exact Kd.V_nil _ _ _ _ _|exact Kd.Q_nil _ _ _ _ _|exact Kd.R_nil _ _ _ _ _⟩,⟨qb⟩⟩
 case round =>
  clear H';obtain ⟨x3_1,x4_1,rfl,HA,HK1,HO_3,HB⟩:=hrel;cases gk with
  | zero=>exact absurd HA.out (by simp [zAN.l0])
  | succ k1 =>
   have H:=HA.out;clear HA;simp only [zAN.l0] at H;rcases qj H with ⟨c2b0,H⟩|⟨c2b0,H⟩
   ·rcases qj H with ⟨c3b0,H⟩|⟨c3,H⟩
    ·replace H:=zb.mp H;obtain ⟨t105,A40,H⟩:=H;(try dsimp only at H);have A4:=zA A40;clear A40;by_cases c5:x3_1.length < 5864062014805
     ·rw [if_pos c5] at H;have LMc5:=zA c5;clear c5;generalize hy108:(x3_1 ++ [t105]) = y108 at H;replace hy108:=hy108.symm
      have Ny108:=zA hy108;clear hy108;have H':=zA H;clear H;have p104:0 ≤ (x4_1:Int):=qd;have q104:x4_1 < (l0.length:Int):=qd;obtain ⟨ad104,A104_0,c104_0,e104,hx104_0,hl104_0,hi104_0⟩:=zAW HR0.out x4_1 p104 q104;cases e104;replace hx104_0:=qy HB hx104_0;have HR104_0:=zA hi104_0;have HC104_0:=zA hl104_0;clear hi104_0 hl104_0;replace p104:=qT p104;replace q104:=qT q104;go_wp2_with (first|((with_reducible refine zU (f:=10) rfl ?_);refine gL (some 16) Try.func10 #[.slice A104_0 (zAE l0 x4_1).length c104_0] ?_;(with_reducible refine (zAU.calls _ _ (zAE l0 x4_1) t105 _ (qc HR104_0) HC104_0.out A4.out).mono ?_);rintro e w6 ⟨v106,rfl,ho0,hb⟩;refine ⟨_,rfl,?_⟩;replace HO_3:=zA (Kd.S_elder' (qS HO_3) (Kd.R_base ho0) hb);have HO107:=zA (Kd.R_lower ho0 qs);replace HB:=zA (zH qb hb);clear ho0 hb;obtain ⟨Ao8,co8,eo8⟩:=Kd.R_slice HO107.out;subst eo8)|((with_reducible refine gate_builtin (b:=.append) (xs:=#[.tmp 11,.tmp 17]) rfl ?_);at_builtin;refine Kd.S_append (Kd.slice 3 (Kd.int .i64)) (w0:=w) w.heap.size rfl (.tmp 11) (.tmp 17) 23 24 (.slice none 0 0) 24 rfl Try.underlying23 info24 rfl (by decide) (by omega) u3 x3_1 t105 [.slice Ao8 t105.length co8] (fun _=>True) (fun k_=>some k_ = (.slice Ao8 t105.length co8:Value).ownBlock) rfl rfl (Kd.M_row (Kd.R_mono (Kd.R_tight rfl (Kd.R_mono (ok':=fun k_=>((fun _=>True)) k_∧some k_ ≠ (u3:Value).ownBlock) (Kd.R_apart' (HO107.out) (Kd.S_typed HO_3.out) (by decide)) (fun k_ hk=>⟨trivial,hk.2⟩))) (fun _ h_=>h_))) (fun k_ hk_=>((Kd.R_mono (ok':=fun k_=>((fun _=>True)) k_∧some k_ ≠ (u3:Value).ownBlock) (Kd.R_apart' (HO107.out) (Kd.S_typed HO_3.out) (by decide)) (fun k_ hk=>⟨trivial,hk.2⟩))).1 k_ hk_.symm) (fun _ _=>trivial) ?aO qb qs (qo LMc5) ?_;(case aO=>exact (by (with_reducible repeat (first|apply Kd.S_alloc|apply Kd.S_drewN|apply Kd.S_drew));exact Kd.S_mono HO_3.out (fun k_ hk=>⟨trivial,fun e_=>hk.2 e_⟩)));intro v109 w7 ho hb hg hat;rw [← Ny108.out] at ho;replace HB:=zA (hb);have HO110:=zA (ho);clear HO_3 HO107;clear ho hb hg hat));go_roundg k1
      case measure=>have:=HK1.out;omega
      case rel=>exact ⟨(y108),(wrap64 (x4_1 + 1)),qr,H',⟨qo HK1⟩,⟨qS HO110⟩,⟨qb⟩⟩
     ·rw [if_neg c5] at H;nomatch H
    ·nomatch H
   ·obtain rfl:=Option.some.inj H;go_wp2;go_ret;exact ⟨_,qe,qS HO_3,qb⟩
section
open Go.Proofs.Ytkcghbfmigdomaa.Hand
structure SeenOK (base gb gs gt:Nat) (cs:Array Value) (vS vT:Value) (s:List Bool) (t:List Int) (w:World):Prop where
 b:w.heap[gb]? = some (.cells cs 26 (0,0))
 hs:w.heap[gs]? = some (.cells #[vS] 46 (0,0))
 ht:w.heap[gt]? = some (.cells #[vT] 24 (0,0))
 os:Kd.R Kd.bool 4 w base (fun _=>True) vS s
 ot:Kd.R (Kd.int .i64) 3 w base (fun _=>True) vT t
theorem SeenOK.drew {base gb gs gt:Nat} {cs:Array Value} {vS vT:Value} {s:List Bool} {t:List Int} {w:World} (h:SeenOK base gb gs gt cs vS vT s t w):SeenOK base gb gs gt cs vS vT s t w.drew:=⟨h.b,h.hs,h.ht,Kd.R_drew h.os,Kd.R_drew h.ot⟩
set_option maxHeartbeats 2000000 in
theorem visit_calls (base gb gs gt:Nat) (cs:Array Value) (vS vT:Value) (s:List Bool) (t:List Int) (i:Int) (w:World) (hR:SeenOK base gb gs gt cs vS vT s t w) (h0:0 ≤ i) (h1:i < s.length) (hl:t.length < 17592186044416) (hbt:base ≤ gt) (hbs:base ≤ w.heap.size) :
  Calls Try.prog 33 #[.int .i64 i,.pointer (some ⟨gs,0,none⟩),.pointer (some ⟨gt,0,none⟩)] w fun e w'=>e = .returned (.tuple #[])∧Below base w w'∧∃ vT',(if s.getD i.toNat false = true then SeenOK base gb gs gt cs vS vT' s t w' else SeenOK base gb gs gt cs vS vT' (s.set i.toNat true) (t ++ [i]) w'):=by
 obtain ⟨g,cap,ev,hbg,hlt,cells,hcl⟩:=Kd.R_form hR.os (by omega);subst ev;obtain ⟨k2,z2⟩:=Kd.R_celln false hR.os i h0 h1;have HP:=Kd.R_putg hR.os i true;have HBG:=zA hbg;have k0:w.cell? ⟨gs,0,none⟩ = some (.slice (some ⟨g,0,none⟩) s.length cap):=zI hR.hs 0;have HR:=zA hR;have HL:=zA hl;have HBT:=zA hbt;have HBS:=zA hbs;clear hR hcl hlt hl hbt hbs hbg;have p1:(0 ≤ i) = True:=qT h0;have q1:decide (i < (s.length:Int)) = true:=zQ h1;have q2:(i < (s.length:Int)) = True:=qT h1;by_cases hg:s.getD i.toNat false = true
 ·simp only [hg,↓reduceIte];have hv:rdOf false s i = true:=hg;rw [hv] at k2;go_enter Try.func33,Try.ntmps33;go_wp2;go_end0;exact ⟨rfl,Below.refl _ _,_,HR.out⟩
 ·have hg':rdOf false s i = false:=Bool.eq_false_iff.2 hg;simp only [hg,↓reduceIte];rw [hg'] at k2;obtain ⟨A1,c1,e1⟩:=Kd.R_slice HR.out.ot;subst e1;have HPA:=zA HP;clear HP;go_enter Try.func33,Try.ntmps33;go_wp2_with (first|((with_reducible refine gate_store (t:=4) (p:=11) rfl ?_);refine zAY (t:=4) (p:=11) (v:=?vo_w15) (w1:=(w.setCell ⟨g,i.toNat,none⟩ (.bool true))) ?hg ?ho ?hn ?hr ?_;(case ho=>rfl);(case hg=>rfl);(case hn=>rfl);(case hr=>first|(go_simp;done)|(go_simp;rfl));intro w1 hw;have HO1:=zA (show Kd.R Kd.bool 4 w1 base (fun _=>True) (.slice (some ⟨g,0,none⟩) s.length cap) (s.set i.toNat true) by rw [hw];exact HPA.out.1);have hg1:w.grownBy w1 (some g):=(by rw [hw];exact HPA.out.2);have HT1:=zA (Kd.R_over HR.out.ot HR.out.os (by decide) hg1);have hb1:w1.heap[gb]? = some (.cells cs 26 (0,0)):=blk_grown HR.out.b hg1 (Kd.R_ne HR.out.os HR.out.b (by decide));have hs1:w1.heap[gs]? = some (.cells #[.slice (some ⟨g,0,none⟩) s.length cap] 46 (0,0)):=blk_grown HR.out.hs hg1 (Kd.R_ne HR.out.os HR.out.hs (by decide));have ht1:w1.heap[gt]? = some (.cells #[.slice A1 t.length c1] 24 (0,0)):=blk_grown HR.out.ht hg1 (Kd.R_ne HR.out.os HR.out.ht (by decide));have HB1:=zA hb1;have HS1:=zA hs1;have HHT1:=zA ht1;have HBW1:=zA (show Below base w w1 by rw [hw];exact (Below.refl _ _).setCell HBG.out _);have HSZ1:=zA (show base ≤ w1.heap.size from Nat.le_trans HBS.out HBW1.out.size);have kt:w1.cell? ⟨gt,0,none⟩ = some (.slice A1 t.length c1):=zI ht1 0;clear hg1 hb1 hs1 ht1 hw)|(at_builtin;refine Kd.R_append (Kd.int .i64) base rfl (.tmp 12) (.tmp 14) 24 3 (.int .i64 0) 8 rfl Try.underlying24 info3 rfl (by decide) (by decide) (.slice A1 t.length c1) t i [.int .i64 i] (fun _=>True) (fun _=>False) rfl rfl ?aP (fun _ h=>h.elim) (fun _ _=>trivial) HT1.out (Below.refl _ _) HSZ1.out (qo HL) ?_;(case aP=>rfl);intro v2 w2 ho hb hg hat;obtain ⟨A2,c2,e2⟩:=Kd.R_slice ho;subst e2;have HO2:=zA ho;have HBW2:=zA hb;have HS2:=zA (blk_grown HS1.out hg (Kd.R_ne HT1.out HS1.out (by decide)));have ht2:=(blk_grown HHT1.out hg (Kd.R_ne HT1.out HHT1.out (by decide)));have HHT2:=zA ht2;have HB2:=zA (blk_grown HB1.out hg (Kd.R_ne HT1.out HB1.out (by decide)));have HOS2:=zA (Kd.R_over HO1.out HT1.out (by decide) hg);have kc:w2.cell? ⟨gt,0,none⟩ = some (.slice A1 t.length c1):=zI ht2 0;have kz:w2.frozen? ⟨gt,0,none⟩ = false:=zJ ht2 0;clear ho hb hg hat ht2));go_end0;have hlen:(t ++ [i]).length = t.length + 1:=by simp
  have ho2:=HO2.out;rw [hlen] at ho2;refine ⟨rfl,(HBW1.out.trans HBW2.out).setCell HBT.out _,.slice A2 (t.length + 1) c2,?_⟩;have ht3:(w2.setCell ⟨gt,0,none⟩ (.slice A2 (t.length + 1) c2)).heap[gt]? = some (.cells #[.slice A2 (t.length + 1) c2] 24 (0,0)):=by rw [blk_set HHT2.out];rfl
  exact ⟨blk_far HB2.out (blk_ne HB2.out HHT2.out (by decide)) _,blk_far HS2.out (blk_ne HS2.out HHT2.out (by decide)) _,ht3,Kd.R_set HOS2.out HHT2.out (by decide) 0 _,Kd.R_set ho2 HHT2.out (by decide) 0 _⟩
def visit1 (s:List Bool) (t:List Int) (i:Int):List Bool × List Int:=if s.getD i.toNat false = true then (s,t) else (s.set i.toNat true,t ++ [i])
mutual
def zAK.l0:Nat → List Bool → List Int → Int → Int → List (List Int) → Option (List Bool)
 | 0,_,_,_,_,_=>none
 | k + 1,s,t,i,init,next=>if i < init then (if 0 ≤ i then (if i < (s.length:Int) then (if t.length < 17592186044416 then zAK.l0 k (visit1 s t i).1 (visit1 s t i).2 (wrap64 (i + 1)) init next else none) else none) else none) else zAK.l1 k s t next
def zAK.l1:Nat → List Bool → List Int → List (List Int) → Option (List Bool)
 | 0,_,_,_=>none
 | k + 1,s,t,next=>if 0 < t.length then (if t.length ≤ 17592186044416 then (if 0 ≤ rd t ((t.length:Int) - 1) then (if rd t ((t.length:Int) - 1) < (next.length:Int) then zAK.l2 k s (t.take (t.length - 1)) (zAE next (rd t ((t.length:Int) - 1))) 0 next else none) else none) else none) else some s
def zAK.l2:Nat → List Bool → List Int → List Int → Int → List (List Int) → Option (List Bool)
 | 0,_,_,_,_,_=>none
 | k + 1,s,t,row,j,next=>if j < (row.length:Int) then (if 0 ≤ j then (if 0 ≤ rd row j then (if rd row j < (s.length:Int) then (if t.length < 17592186044416 then zAK.l2 k (visit1 s t (rd row j)).1 (visit1 s t (rd row j)).2 row (wrap64 (j + 1)) next else none) else none) else none) else none) else zAK.l1 k s t next
end
def zAK.f (k:Nat) (l0_0:List (S63)) (a0_1:Int) (l0_2:List (List Int)) (l0_3:List Int) (a0_4:Int):Option (List Bool × Int):=(zAM.f k l0_0 a0_1 l0_2 l0_3 a0_4).bind fun e=>if e = 0 then (if l0_0.length ≤ 140737488355328 then ((zAK.l0 k (List.replicate l0_0.length false) [] 0 a0_1 l0_2).bind fun s=>some (s,0)) else none) else some ([],e)
theorem zAK.mono_l:∀ k,(∀ y0 y1 y2 y3 y4,LeO (zAK.l0 k y0 y1 y2 y3 y4) (zAK.l0 (k + 1) y0 y1 y2 y3 y4))∧(∀ y0 y1 y2,LeO (zAK.l1 k y0 y1 y2) (zAK.l1 (k + 1) y0 y1 y2))∧(∀ y0 y1 y2 y3 y4,LeO (zAK.l2 k y0 y1 y2 y3 y4) (zAK.l2 (k + 1) y0 y1 y2 y3 y4))
 | 0=>⟨fun _ _ _ _ _ r h=>by simp [zAK.l0] at h,fun _ _ _ r h=>by simp [zAK.l1] at h,fun _ _ _ _ _ r h=>by simp [zAK.l2] at h⟩
 | k + 1=>by
  obtain ⟨ih0,ih1,ih2⟩:=zAK.mono_l k
  refine ⟨?_,?_,?_⟩
  ·intro y0 y1 y2 y3 y4
   unfold zAK.l0
   exact qL
  ·intro y0 y1 y2
   unfold zAK.l1
   exact qL
  ·intro y0 y1 y2 y3 y4
   unfold zAK.l2
   exact qL
theorem zAK.mono:∀ a0 a1 a2 a3 a4 k,LeO (zAK.f k a0 a1 a2 a3 a4) (zAK.f (k + 1) a0 a1 a2 a3 a4):=by
 intro a0 a1 a2 a3 a4 k;obtain ⟨ih0,ih1,ih2⟩:=zAK.mono_l k;unfold zAK.f;refine LeO.bind (zAM.mono _ _ _ _ _ k) (fun e=>?_);refine LeO.ite (LeO.ite (LeO.bind (ih0 _ _ _ _ _) (fun _=>LeO.refl _)) (LeO.none _)) (LeO.refl _)
theorem zAK.size_alloc (W:World) (o:Obj):(W.alloc o).heap.size = W.heap.size + 1:=by simp
theorem visit_post {base gb gs gt:Nat} {cs:Array Value} {vS vT:Value} {s:List Bool} {t:List Int} {i:Int} {w:World} (h:if s.getD i.toNat false = true then SeenOK base gb gs gt cs vS vT s t w else SeenOK base gb gs gt cs vS vT (s.set i.toNat true) (t ++ [i]) w):SeenOK base gb gs gt cs vS vT (visit1 s t i).1 (visit1 s t i).2 w:=by
 unfold visit1;split at h
 ·rename_i hc;rw [if_pos hc];exact h
 ·rename_i hc;rw [if_neg hc];exact h
set_option maxHeartbeats 4000000 in
set_option maxRecDepth 100000 in
theorem zAK.calls (k:Nat) (A0_0:Option Addr) (c0_0:Nat) (l0_0:List (S63)) (a0_1:Int) (A0_2:Option Addr) (c0_2:Nat) (l0_2:List (List Int)) (A0_3:Option Addr) (c0_3:Nat) (l0_3:List Int) (a0_4:Int) (r1:List Bool) (r2:Int) (w:World) (hr0_0:Kd.C k63 w A0_0 l0_0.length l0_0) (hc0_0:l0_0.length ≤ c0_0) (hr0_2:Kd.C (Kd.slice 3 (Kd.int .i64)) w A0_2 l0_2.length l0_2) (hc0_2:l0_2.length ≤ c0_2) (hr0_3:Kd.C (Kd.int .i64) w A0_3 l0_3.length l0_3) (hc0_3:l0_3.length ≤ c0_3) (h:zAK.f k l0_0 a0_1 l0_2 l0_3 a0_4 = some (r1,r2)) :
  Calls Try.prog 25 #[.agg #[.slice A0_0 l0_0.length c0_0,.int .i64 a0_1,.slice A0_2 l0_2.length c0_2,.slice A0_3 l0_3.length c0_3,.int .i64 a0_4]] w fun e w'=>∃ v0_:Value,e = .returned (.tuple #[v0_,.int .i64 r2])∧Kd.R Kd.bool 4 w' w.heap.size (fun _=>True) v0_ r1∧Below w.heap.size w w':=by
 have hu33:=Try.underlying26;have HR0_0:=zA hr0_0;have HR0_2:=zA hr0_2;have HR0_3:=zA hr0_3;have HC0_0:=zA hc0_0;have HC0_2:=zA hc0_2;have HC0_3:=zA hc0_3;clear hr0_0 hr0_2 hr0_3 hc0_0 hc0_2 hc0_3;unfold zAK.f at h;replace h:=zb.mp h;obtain ⟨e0,A2,h⟩:=h;have HA2:=zA A2;have HH:=zA h;clear A2 h;by_cases he:e0 = 0
 case neg =>
  have q1:(e0 != 0) = true:=bne_iff_ne.2 he;have h:=HH.out;rw [if_neg he] at h;simp only [Option.some.injEq,Prod.mk.injEq] at h;obtain ⟨rfl,rfl⟩:=h;go_enter Try.func25,Try.ntmps25;go_wp2_with (first|((with_reducible refine zV (N:=1) rfl ?_);refine bq 1 (cs:=#[.slice A0_0 l0_0.length c0_0,.int .i64 a0_1,.slice A0_2 l0_2.length c0_2,.slice A0_3 l0_3.length c0_3,.int .i64 a0_4]) (t:=26) ?_;intro gb hg w1 hbox hb;have HB1:=zA hb;have HG1:=zA (show w.heap.size ≤ gb by rw [hg];exact Nat.le_refl _);have HX1:=zA hbox;have k0:w1.cell? ⟨gb,0,none⟩ = some (.slice A0_0 l0_0.length c0_0):=zI hbox 0;have k1:w1.cell? ⟨gb,1,none⟩ = some (.int .i64 a0_1):=zI hbox 1;have k2:w1.cell? ⟨gb,2,none⟩ = some (.slice A0_2 l0_2.length c0_2):=zI hbox 2;have k3:w1.cell? ⟨gb,3,none⟩ = some (.slice A0_3 l0_3.length c0_3):=zI hbox 3;have k4:w1.cell? ⟨gb,4,none⟩ = some (.int .i64 a0_4):=zI hbox 4;clear hb hbox hg)|(go_at_call 27;(with_reducible refine (zAM.calls k _ _ l0_0 a0_1 _ _ l0_2 _ _ l0_3 a0_4 e0 _ (zT HR0_0.out HB1.out) HC0_0.out (zT HR0_2.out HB1.out) HC0_2.out (zT HR0_3.out HB1.out) HC0_3.out HA2.out).mono ?_);rintro e w2 ⟨rfl,hb⟩;have hx:=zN HX1.out hb;have HX2:=zA hx;have HB2:=zA (zH HB1.out hb);clear k0 k1 k2 k3 k4;have k0:w2.cell? ⟨gb,0,none⟩ = some (.slice A0_0 l0_0.length c0_0):=zI hx 0;have k1:w2.cell? ⟨gb,1,none⟩ = some (.int .i64 a0_1):=zI hx 1;have k2:w2.cell? ⟨gb,2,none⟩ = some (.slice A0_2 l0_2.length c0_2):=zI hx 2;clear hb hx));go_ret2;exact ⟨_,rfl,Kd.R_nil _ _ _ _ _,HB2.out⟩
 have q1:(e0 != 0) = false:=bne_eq_false_iff_eq.2 he;have h:=HH.out;rw [if_pos he] at h;clear HH;by_cases hn:l0_0.length ≤ 140737488355328
 case neg=>rw [if_neg hn] at h;cases h
 rw [if_pos hn] at h;have HN:=zA hn;clear hn;replace h:=zb.mp h;obtain ⟨sr,h,hh⟩:=h;simp only [Option.some.injEq,Prod.mk.injEq] at hh;obtain ⟨rfl,rfl⟩:=hh;have HL0:=zA h;clear h;go_enter Try.func25,Try.ntmps25;go_wp2_with (first|((with_reducible refine zV (N:=1) rfl ?_);refine bq 1 (cs:=#[.slice A0_0 l0_0.length c0_0,.int .i64 a0_1,.slice A0_2 l0_2.length c0_2,.slice A0_3 l0_3.length c0_3,.int .i64 a0_4]) (t:=26) ?_;intro gb hg w1 hbox hb;have HB1:=zA hb;have HG1:=zA (show w.heap.size ≤ gb by rw [hg];exact Nat.le_refl _);have HX1:=zA hbox;have k0:w1.cell? ⟨gb,0,none⟩ = some (.slice A0_0 l0_0.length c0_0):=zI hbox 0;have k1:w1.cell? ⟨gb,1,none⟩ = some (.int .i64 a0_1):=zI hbox 1;have k2:w1.cell? ⟨gb,2,none⟩ = some (.slice A0_2 l0_2.length c0_2):=zI hbox 2;have k3:w1.cell? ⟨gb,3,none⟩ = some (.slice A0_3 l0_3.length c0_3):=zI hbox 3;have k4:w1.cell? ⟨gb,4,none⟩ = some (.int .i64 a0_4):=zI hbox 4;clear hb hbox hg)|(go_at_call 27;(with_reducible refine (zAM.calls k _ _ l0_0 a0_1 _ _ l0_2 _ _ l0_3 a0_4 e0 _ (zT HR0_0.out HB1.out) HC0_0.out (zT HR0_2.out HB1.out) HC0_2.out (zT HR0_3.out HB1.out) HC0_3.out HA2.out).mono ?_);rintro e w2 ⟨rfl,hb⟩;have hx:=zN HX1.out hb;have HX2:=zA hx;have HB2:=zA (zH HB1.out hb);clear k0 k1 k2 k3 k4;have k0:w2.cell? ⟨gb,0,none⟩ = some (.slice A0_0 l0_0.length c0_0):=zI hx 0;have k1:w2.cell? ⟨gb,1,none⟩ = some (.int .i64 a0_1):=zI hx 1;have k2:w2.cell? ⟨gb,2,none⟩ = some (.slice A0_2 l0_2.length c0_2):=zI hx 2;clear hb hx)| ((with_reducible refine zV (N:=20) rfl ?_);refine Kd.R_make Kd.bool _ 4 rfl (N:=20) rfl 46 _ _ rfl (l0_0.length:Int) rfl rfl Try.underlying46 (.bool false) 1 info4 rfl (by decide) (by omega) false (ok:=fun _=>True) (okp:=fun _=>True) rfl (fun _ hk=>hk) trivial (by omega) (qo HN) (Below.refl _ _) (Nat.le_refl _) ?_;intro vS w3 ho hb hg_ hnew_;rw [Int.toNat_natCast] at ho;obtain ⟨AS,cS,eS⟩:=Kd.R_slice ho;subst eS;have HO3:=zA (Kd.R_lower ho HB2.out.size);have HX3:=zA (zN HX2.out hb);have HB3:=zA (zH HB2.out hb);have k0:w3.cell? ⟨gb,0,none⟩ = some (.slice A0_0 l0_0.length c0_0):=zI HX3.out 0;have k1:w3.cell? ⟨gb,1,none⟩ = some (.int .i64 a0_1):=zI HX3.out 1;have k5:((w3.alloc (.cells #[.slice AS l0_0.length cS] 46)).alloc (.cells #[.slice none 0 0] 24)).cell? ⟨gb,1,none⟩ = some (.int .i64 a0_1):=zI (zK (zK HX3.out _) _) 1;clear ho hb hg_ hnew_));have hso:(List.replicate l0_0.length false).length = l0_0.length:=by simp
 have hS0:SeenOK w.heap.size gb w3.heap.size (w3.heap.size + 1) #[.slice A0_0 l0_0.length c0_0,.int .i64 a0_1,.slice A0_2 l0_2.length c0_2,.slice A0_3 l0_3.length c0_3,.int .i64 a0_4] (.slice AS l0_0.length cS) (.slice none 0 0) (List.replicate l0_0.length false) [] ((w3.alloc (.cells #[.slice AS l0_0.length cS] 46)).alloc (.cells #[.slice none 0 0] 24)):=by
  refine ⟨zK (zK HX3.out _) _,zK (blk_new _ _) _,?_,?_,Kd.R_nil _ _ _ _ _⟩
  ·have:=blk_new (w3.alloc (.cells #[.slice AS l0_0.length cS] 46)) (.cells #[.slice none 0 0] 24);rw [zAK.size_alloc] at this;exact this
  ·have h:=HO3.out;rw [hso] at h;exact Kd.R_alloc (Kd.R_alloc h _) _
 have HS0:=zA hS0;have HB5:=zA (show Below w.heap.size w ((w3.alloc (.cells #[.slice AS l0_0.length cS] 46)).alloc (.cells #[.slice none 0 0] 24)) from zD (zD HB3.out _) _);have HGT:=zA (show w.heap.size ≤ w3.heap.size + 1 from Nat.le_succ_of_le HB3.out.size);clear hS0 hso k0 k1 k5;obtain ⟨gt,hgt⟩:∃ gt,gt = w3.heap.size + 1:=⟨_,rfl⟩;rw [← hgt] at HS0 HGT ⊢;obtain ⟨gs,hgs⟩:∃ gs,gs = w3.heap.size:=⟨_,rfl⟩;rw [← hgs] at HS0 ⊢;clear hgt hgs;go_loopg [24] k (fun kq v24 w'=>∃ (x:Int) (vT:Value) (s:List Bool) (t:List Int),v24 = .int .i64 x∧Aside0 (zAK.l0 kq s t x a0_1 l0_2 = some sr)∧Aside0 (kq ≤ k)∧Aside0 (SeenOK w.heap.size gb gs gt #[.slice A0_0 l0_0.length c0_0,.int .i64 a0_1,.slice A0_2 l0_2.length c0_2,.slice A0_3 l0_3.length c0_3,.int .i64 a0_4] (.slice AS l0_0.length cS) vT s t w')∧Aside0 (Below w.heap.size w w'))
 case atStart=>exact ⟨0,_,_,_,rfl,HL0,⟨Nat.le_refl _⟩,HS0,HB5⟩
 case round =>
  clear HL0 HS0 HB5;obtain ⟨x,vT,s,t,rfl,HA,HK,HS,HB⟩:=hrel;cases gk with
  | zero=>exact absurd HA.out (by simp [zAK.l0])
  | succ k1 =>
  have h:=HA.out;clear HA;simp only [zAK.l0] at h;by_cases g1:x < a0_1
  ·have q1:decide (x < a0_1) = true:=zQ g1;rw [if_pos g1] at h;by_cases g2:0 ≤ x
   case neg=>rw [if_neg g2] at h;cases h
   rw [if_pos g2] at h;by_cases g3:x < (s.length:Int)
   case neg=>rw [if_neg g3] at h;cases h
   rw [if_pos g3] at h;by_cases g4:t.length < 17592186044416
   case neg=>rw [if_neg g4] at h;cases h
   rw [if_pos g4] at h;have HA:=zA h;have HV:=zA (visit_calls w.heap.size gb gs gt _ _ _ s t x wr HS.out g2 g3 g4 HGT.out HB.out.size);clear h g1 g2 g3 g4;go_wp2_with fail;refine HV.out.mono ?_;rintro e w5 ⟨rfl,hb,vT',hs⟩;have HS5:=zA (visit_post hs);have HB5:=zA (HB.out.trans hb);clear hb hs HV;go_wp2_with fail;go_roundg k1
   case measure=>have:=HK.out;omega
   case rel=>exact ⟨_,vT',_,_,rfl,HA,⟨qo HK⟩,HS5,HB5⟩
  ·have q1:decide (x < a0_1) = false:=zR g1;rw [if_neg g1] at h;have HA:=zA h;clear h g1;go_wp2_with fail;go_loopg [] k1 (fun kq w'=>∃ (vT:Value) (s:List Bool) (t:List Int),Aside0 (zAK.l1 kq s t l0_2 = some sr)∧Aside0 (SeenOK w.heap.size gb gs gt #[.slice A0_0 l0_0.length c0_0,.int .i64 a0_1,.slice A0_2 l0_2.length c0_2,.slice A0_3 l0_3.length c0_3,.int .i64 a0_4] (.slice AS l0_0.length cS) vT s t w')∧Aside0 (Below w.heap.size w w'))
   case atStart=>exact ⟨_,_,_,HA,HS,HB⟩
   case round =>
    clear HA HS HB;obtain ⟨vT,s,t,HA,HS,HB⟩:=hrel;cases gk with
    | zero=>exact absurd HA.out (by simp [zAK.l1])
    | succ kb =>
    have h:=HA.out;clear HA;simp only [zAK.l1] at h;obtain ⟨AT,cT,eT⟩:=Kd.R_slice HS.out.ot;subst eT;have k0:wr.cell? ⟨gs,0,none⟩ = some (.slice AS l0_0.length cS):=zI HS.out.hs 0;have kt:wr.cell? ⟨gt,0,none⟩ = some (.slice AT t.length cT):=zI HS.out.ht 0;by_cases g1:0 < t.length
    case neg =>
     have q1:decide (0 < t.length) = false:=zR g1;rw [if_neg g1] at h;obtain rfl:=Option.some.inj h;clear h g1;go_wp2_with fail;go_ret2;exact ⟨_,rfl,HS.out.os,HB.out⟩
    have q1:decide ((t.length:Int) > 0) = true:=zQ (by omega);rw [if_pos g1] at h;by_cases g0:t.length ≤ 17592186044416
    case neg=>rw [if_neg g0] at h;cases h
    rw [if_pos g0] at h;obtain ⟨m,hm⟩:∃ m,t.length = m + 1:=⟨t.length - 1,by omega⟩;have em:(t.length:Int) - 1 = (m:Int):=by omega
    have em2:t.length - 1 = m:=by omega
    rw [em,em2] at h;by_cases g2:0 ≤ rd t (m:Int)
    case neg=>rw [if_neg g2] at h;cases h
    rw [if_pos g2] at h;by_cases g3:rd t (m:Int) < (l0_2.length:Int)
    case neg=>rw [if_neg g3] at h;cases h
    rw [if_pos g3] at h;have HA:=zA h;clear h;obtain ⟨hn,hcap,hC⟩:=Kd.R_reads' HS.out.ot;obtain ⟨ad,ead,kx⟩:=Kd.at_int hC (m:Int) (by omega) (by omega);subst ead;rw [Int.toNat_natCast] at kx;have z0:wr.frozen? ⟨gt,0,none⟩ = false:=zJ HS.out.ht 0;have e1:IntKind.i64.wrap (((m + 1:Nat):Int) - 1) = (m:Int):=by rw [IntKind.wrap_i64];omega
    have e2:IntKind.i64.wrap (m:Int) = (m:Int):=by rw [IntKind.wrap_i64];omega
    have hq1:decide ((m:Int) < ((m + 1:Nat):Int)) = true:=zQ (by omega);have hp1:(0 ≤ (m:Int)) = True:=qT (by omega);obtain ⟨i0,hi0,hz0,hz1,hz2⟩:=info_parts info3;rw [hm] at kt q1 hcap;have hcut:=cut_to (P:=Try.prog) 24 3 .i64 Try.underlying24 hi0 (some ad) (m + 1) cT (m:Int) (by omega) (by omega) hcap;rw [Int.toNat_natCast] at hcut;clear hi0 hz0 hz1 hz2 hC hn em em2;have HM:=zA hm;clear g1 g0 hm;go_upto_region 15 with fail;clear k0 kt kx z0 e1 e2 hq1 hp1 hcut hcap q1;obtain ⟨w4,hw4⟩:∃ w4,w4 = wr.setCell ⟨gt,0,none⟩ (.slice (some ad) m cT):=⟨_,rfl⟩;have hS4:SeenOK w.heap.size gb gs gt #[.slice A0_0 l0_0.length c0_0,.int .i64 a0_1,.slice A0_2 l0_2.length c0_2,.slice A0_3 l0_3.length c0_3,.int .i64 a0_4] (.slice AS l0_0.length cS) (.slice (some ad) m cT) s (t.take m) w4:=by
     have ht4:w4.heap[gt]? = some (.cells #[.slice (some ad) m cT] 24 (0,0)):=by rw [hw4,blk_set HS.out.ht];rfl
     have hk:=Kd.R_take HS.out.ot (show m ≤ t.length by have:=HM.out;omega);rw [hw4];exact ⟨blk_far HS.out.b (blk_ne HS.out.b HS.out.ht (by decide)) _,blk_far HS.out.hs (blk_ne HS.out.hs HS.out.ht (by decide)) _,hw4 ▸ ht4,Kd.R_set HS.out.os HS.out.ht (by decide) 0 _,Kd.R_set hk HS.out.ht (by decide) 0 _⟩
    have HS4:=zA hS4;have HB4:=zA (show Below w.heap.size w w4 by rw [hw4];exact HB.out.setCell HGT.out _);rw [← hw4];clear hw4 hS4;obtain ⟨ad2,A3,c3,ea2,kr,hl3,hr3⟩:=zAW HR0_2.out (rd t (m:Int)) g2 g3;cases ea2;replace kr:=(HB4.out.cell (zB w _ kr)).trans kr;have HR3:=zA hr3;clear hr3;have p5:(0 ≤ rd t (m:Int)) = True:=qT g2;have q5:(rd t (m:Int) < (l0_2.length:Int)) = True:=qT g3;have q6:decide (rd t (m:Int) < (l0_2.length:Int)) = true:=zQ g3;have k2:w4.cell? ⟨gb,2,none⟩ = some (.slice (some ad2) l0_2.length c0_2):=zI HS4.out.b 2;go_wp2_with fail;obtain ⟨row,hrow⟩:∃ row,row = zAE l0_2 (rd t (m:Int)):=⟨_,rfl⟩;rw [← hrow] at HA HR3 ⊢;clear hrow hl3 kr k2 p5 q5 q6 g2 g3;go_loopg [51] kb (fun kq v51 w'=>∃ (j:Int) (vT:Value) (s:List Bool) (t:List Int),v51 = .int .i64 j∧Aside0 (zAK.l2 kq s t row j l0_2 = some sr)∧Aside0 (kq ≤ kb)∧Aside0 (SeenOK w.heap.size gb gs gt #[.slice A0_0 l0_0.length c0_0,.int .i64 a0_1,.slice (some ad2) l0_2.length c0_2,.slice A0_3 l0_3.length c0_3,.int .i64 a0_4] (.slice AS l0_0.length cS) vT s t w')∧Aside0 (Below w.heap.size w w'))
    case atStart=>exact ⟨0,_,_,_,rfl,HA,⟨Nat.le_refl _⟩,HS4,HB4⟩
    case round =>
     clear HA HS4 HB4 HS HB HK HM;obtain ⟨j,vT,s,t,rfl,HA,HK,HS,HB⟩:=hrel;cases gk with
     | zero=>exact absurd HA.out (by simp [zAK.l2])
     | succ k3 =>
     have h:=HA.out;clear HA;simp only [zAK.l2] at h;by_cases g1:j < (row.length:Int)
     ·have q1:decide (j < (row.length:Int)) = true:=zQ g1;rw [if_pos g1] at h;by_cases g0:0 ≤ j
      case neg=>rw [if_neg g0] at h;cases h
      rw [if_pos g0] at h;by_cases g2:0 ≤ rd row j
      case neg=>rw [if_neg g2] at h;cases h
      rw [if_pos g2] at h;by_cases g3:rd row j < (s.length:Int)
      case neg=>rw [if_neg g3] at h;cases h
      rw [if_pos g3] at h;by_cases g4:t.length < 17592186044416
      case neg=>rw [if_neg g4] at h;cases h
      rw [if_pos g4] at h;have HA:=zA h;have HV:=zA (visit_calls w.heap.size gb gs gt _ _ _ s t (rd row j) wr HS.out g2 g3 g4 HGT.out HB.out.size);obtain ⟨ad4,ea4,k4⟩:=Kd.at_int HR3.out j g0 g1;subst ea4;replace k4:=(HB.out.cell (zB w _ k4)).trans k4;have p4:(0 ≤ j) = True:=qT g0;have q4:(j < (row.length:Int)) = True:=qT g1;clear h g0 g1 g2 g3 g4;go_wp2_with fail;refine HV.out.mono ?_;rintro e w5 ⟨rfl,hb,vT',hs⟩;have HS5:=zA (visit_post hs);have HB5:=zA (HB.out.trans hb);clear hb hs HV;go_wp2_with fail;go_roundg k3
      case measure=>have:=HK.out;omega
      case rel=>exact ⟨_,vT',_,_,rfl,HA,⟨qo HK⟩,HS5,HB5⟩
     ·have q1:decide (j < (row.length:Int)) = false:=zR g1;rw [if_neg g1] at h;have HA:=zA h;clear h g1;go_wp2_with fail;go_roundg k3
      case measure=>have:=HK.out;omega
      case rel=>exact ⟨_,_,_,HA,HS,HB⟩
end
end Go.Proofs.Ytkcghbfmigdomaa.Q
