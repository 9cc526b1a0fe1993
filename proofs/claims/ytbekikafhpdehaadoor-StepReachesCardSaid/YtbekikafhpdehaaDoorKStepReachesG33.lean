import Derived.Test.YtbekikafhpdehaaDoorKStepReachesG8
import Derived.Test.YtbekikafhpdehaaDoorKStepReachesG13
import Derived.Test.YtbekikafhpdehaaDoorKStepReachesG17
import Derived.Test.YtbekikafhpdehaaDoorKStepReachesG19
import Derived.Test.YtbekikafhpdehaaDoorKStepReachesG30
import Derived.Test.YtbekikafhpdehaaDoorKStepReachesG32
import Derived.Test.YtbekikafhpdehaaDoorKStepReachesG12
import Derived.Test.YtbekikafhpdehaaDoorKStepReachesG7
import Derived.Test.YtbekikafhpdehaaDoorKStepReachesG20
namespace Go.Proofs.YtbekikafhpdehaaDoor.T
open Go.Proofs.YtbekikafhpdehaaDoor.Al
open Go.World renaming block_lt_of_cell? → zB
open Option renaming bind_eq_some_iff → zb
open List renaming setIfInBounds_toArray → zX, set_cons_zero → zY, set_cons_succ → zZ
open Go.Proofs.YtbekikafhpdehaaDoorW.PrintWords renaming below_alloc → zD, below_drew1 → zE, below_step → zH, blk_cell → zI, blk_alloc → zK, blk_drew → zM, blk_below → zN, gate_callee → zU, gate_dst → zV
open Go.Proofs.YtbekikafhpdehaaDoor.Sq
open Go.RowKit Go.Proofs.YtbekikafhpdehaaDoorW.PrintWords Go.Proofs.YtbekikafhpdehaaDoorW.PrintLast Go.Proofs.YtbekikafhpdehaaDoorW.PrintMore
attribute [local go_sem] max2_int min2_int max_two min_two max_three min_three max_four min_four
set_option linter.unusedVariables false
set_option linter.unusedSimpArgs false
section
open Go.Proofs.YtbekikafhpdehaaDoor.Hand
open Go.Proofs.YtbekikafhpdehaaDoor.Pure (addNew addNew_spec)
open Go.Proofs.YtbekikafhpdehaaDoor.Sq
def rchOk (r:List Int):Bool:=decide (r.length ≤ 1000000) && r.all fun x=>decide (0 ≤ x∧x < 1000000)
def step_Reach.l0:Nat → List S58 → List S49 → Int → List Int → Option (List Int)
 | 0,_,_,_,_=>none
 | k + 1,vs,rs,x,l=>if x < (l.length:Int) then (if 0 ≤ x then (step_Next.f k vs rs (rd l x)).bind fun bt=>(if rchOk bt.1 = true then (if (addNew l bt.1).length ≤ 1000000 then step_Reach.l0 k vs rs (wrap64 (x + 1)) (addNew l bt.1) else none) else none) else none) else some l
def step_Reach.f (k:Nat) (l0_0:List S58) (l0_1:List S49):Option (List Int × Int):=(model_First.f k l0_0 l0_1).bind fun bt=>if bt.2 = 0 then (if 0 ≤ bt.1∧bt.1 < 1000000 then (step_Reach.l0 k l0_0 l0_1 0 [bt.1]).bind fun l=>(slices_Sort_int_int.f l).bind fun t=>some (t,0) else none) else some ([],bt.2)
theorem step_Reach.mono_l:∀ k,∀ y0 y1 y2 y3,LeO (step_Reach.l0 k y0 y1 y2 y3) (step_Reach.l0 (k + 1) y0 y1 y2 y3)
 | 0=>fun _ _ _ _ r h=>by simp [step_Reach.l0] at h
 | k + 1=>by
  have ih:=step_Reach.mono_l k
  intro y0 y1 y2 y3
  unfold step_Reach.l0
  exact LeO.ite (LeO.ite (LeO.bind (step_Next.mono _ _ _ k) (fun e=>LeO.ite (LeO.ite (ih _ _ _ _) (LeO.none _)) (LeO.none _))) (LeO.none _)) (LeO.refl _)
theorem step_Reach.mono:∀ a0 a1 k,LeO (step_Reach.f k a0 a1) (step_Reach.f (k + 1) a0 a1):=by
 intro a0 a1 k;unfold step_Reach.f;exact LeO.bind (model_First.mono _ _ k) (fun e=>LeO.ite (LeO.ite (LeO.bind (step_Reach.mono_l k _ _ _ _) (fun _=>LeO.refl _)) (LeO.none _)) (LeO.refl _))
def step_Reach.T9:Bool × List (List Nat × List Nat):=(true,[([],[]),([],[]),([],[]),([1,2],[1,2]),([3],[3]),([0,4],[0,4]),([5],[5]),([6],[6]),([6],[6]),([7,5,0,1,2,3,4,5,6,7],[7]),([8,9,0,1,2,3,4,5,6,7,8,9],[8])])
def step_Reach.B9:List Nat:=[0,0,0,6,14,31,63,127,127,255,1023]
theorem step_Reach.tab9:rtab .any (opsOf Tryd.f14 9) = step_Reach.T9:=by kernel_rfl
theorem step_Reach.bits9:waitsOk step_Reach.T9.2 step_Reach.B9 = true:=by kernel_rfl
structure RchIn (base gb gm:Nat) (cs:Array Value) (v:Value) (l:List Int) (u:Value) (ns:List Int) (w:World):Prop where
 b:w.heap[gb]? = some (.cells cs 25 (0,0))
 m:MapIs w gm (skeys l)
 o:Kd.R (Kd.int .i64) 3 w base (fun _=>True) v l
 n:Kd.R (Kd.int .i64) 3 w base (fun k=>some k ≠ v.ownBlock) u ns
 k:∀ s ∈ l,0 ≤ s∧s < 1000000
theorem RchIn.alloc {base gb gm:Nat} {cs:Array Value} {v:Value} {l:List Int} {u:Value} {ns:List Int} {w:World} (h:RchIn base gb gm cs v l u ns w) (o:Obj):RchIn base gb gm cs v l u ns (w.alloc o) :=
 ⟨zK h.b _,h.m.alloc _,Kd.R_alloc h.o _,Kd.R_alloc h.n _,h.k⟩
theorem rch_ne {base gm:Nat} {ps:List (Value × Value)} {ok:Nat → Prop} {v:Value} {l:List Int} {w:World} (m:MapIs w gm ps) (o:Kd.R (Kd.int .i64) 3 w base ok v l):some gm ≠ v.ownBlock:=by
 intro e;obtain ⟨es,clock,h1,_⟩:=m;obtain ⟨cells,h2⟩:=Kd.R_typed o gm e.symm;rw [h1] at h2;cases h2
theorem RchIn.put {base gb gm:Nat} {cs:Array Value} {v:Value} {l:List Int} {u:Value} {ns:List Int} {w w':World} (h:RchIn base gb gm cs v l u ns w) (hg:w.grownBy w' (some gm)) :
  w'.heap[gb]? = some (.cells cs 25 (0,0))∧Kd.R (Kd.int .i64) 3 w' base (fun _=>True) v l∧Kd.R (Kd.int .i64) 3 w' base (fun k=>some k ≠ v.ownBlock) u ns:=by
 refine ⟨blk_grown h.b hg ?_,?_,?_⟩
 ·intro e;injection e with e;obtain ⟨es,clock,h1,_⟩:=h.m;have h2:=h.b;rw [e,h1] at h2;cases h2
 ·refine Kd.R_mono (Kd.R_grown (Kd.R_tight rfl h.o) hg fun k hk e=>rch_ne h.m h.o ?_) (fun _ _=>trivial);rw [← e];exact hk
 ·refine Kd.R_mono (Kd.R_grown (ok:=fun k=>some k ≠ v.ownBlock∧some k ≠ some gm) (Kd.R_mono (Kd.R_tight2 rfl h.n) fun k hk=>⟨hk.2,fun e=>rch_ne h.m h.n ?_⟩) hg fun k hk=>hk.2) (fun k hk=>hk.1);rw [← e];exact hk.1
theorem RchIn.add {base gb gm:Nat} {cs:Array Value} {v v2:Value} {l:List Int} {u:Value} {ns:List Int} {w w':World} {x:Int} (b:w.heap[gb]? = some (.cells cs 25 (0,0))) (m:MapIs w gm (skeys (l ++ [x])))
  (o:Kd.R (Kd.int .i64) 3 w base (fun _=>True) v l) (n:Kd.R (Kd.int .i64) 3 w base (fun k=>some k ≠ v.ownBlock) u ns) (hk:∀ s ∈ l,0 ≤ s∧s < 1000000) (hx:0 ≤ x∧x < 1000000)
  (ho:Kd.R (Kd.int .i64) 3 w' base (fun _=>True) v2 (l ++ [x])) (hg:w.grownBy w' v.ownBlock) (hat:v2.ownBlock = v.ownBlock ∨ ∃ b,v2.ownBlock = some b∧w.heap.size ≤ b):RchIn base gb gm cs v2 (l ++ [x]) u ns w':=by
 refine ⟨blk_grown b hg (Kd.R_ne o b (by decide)),m.kept hg (rch_ne m o),ho,?_,fun s hs=>?_⟩
 ·have h1:Kd.R (Kd.int .i64) 3 w base (fun k=>(some k ≠ v.ownBlock)∧k < w.heap.size) u ns:=Kd.R_mono (Kd.R_tight2 rfl n) fun k hk=>⟨hk.2,Kd.R_lt n k hk.1.symm⟩;refine Kd.R_mono (Kd.R_grown h1 hg fun k hk=>hk.1) fun k hk=>?_;rcases hat with e|⟨q,e,hq⟩
  ·rw [e];exact hk.1
  ·rw [e];intro e2;injection e2 with e2;omega
 ·rcases List.mem_append.1 hs with h|h
  ·exact hk s h
  ·rw [List.mem_singleton.1 h];exact hx
set_option maxHeartbeats 4000000 in
set_option maxRecDepth 100000 in
theorem step_Reach.calls (k:Nat) (A0_0:Option Addr) (c0_0:Nat) (l0_0:List S58) (A0_1:Option Addr) (c0_1:Nat) (l0_1:List S49) (r1:List Int) (r2:Int) (w:World) (hr0_0:Kd.C k58 w A0_0 l0_0.length l0_0) (hc0_0:l0_0.length ≤ c0_0) (hr0_1:Kd.C k49 w A0_1 l0_1.length l0_1) (hc0_1:l0_1.length ≤ c0_1) (hL:LaidG w) (h:step_Reach.f k l0_0 l0_1 = some (r1,r2)) :
  Calls Tryd.prog 14 #[.agg #[.slice A0_0 l0_0.length c0_0,.slice A0_1 l0_1.length c0_1]] w fun e w'=>∃ v0_:Value,e = .returned (.tuple #[v0_,.int .i64 r2])∧Kd.R (Kd.int .i64) 3 w' w.heap.size (fun _=>True) v0_ r1∧Below w.heap.size w w':=by
 have HLd:=zA hL;have huM:=Tryd.underlying25;have HR0_0:=zA hr0_0;have HC0_0:=zA hc0_0;have HR0_1:=zA hr0_1;have HC0_1:=zA hc0_1;clear hL hr0_0 hc0_0 hr0_1 hc0_1;have HB:=zA (Below.refl w.heap.size w);unfold step_Reach.f at h;obtain ⟨⟨f,e0⟩,A1,h⟩:=zb.mp h;have HA1:=zA A1;clear A1;dsimp only at h;by_cases he:e0 = 0
 case neg =>
  have q1:(e0 != 0) = true:=bne_iff_ne.2 he;rw [if_neg he] at h;simp only [Option.some.injEq,Prod.mk.injEq] at h;obtain ⟨rfl,rfl⟩:=h;go_enter Tryd.func14,Tryd.ntmps14;go_wp2_with (first|((with_reducible refine zV (N:=1) rfl ?_);refine bq 1 (cs:=#[.slice A0_0 l0_0.length c0_0,.slice A0_1 l0_1.length c0_1]) (t:=25) ?_;intro gb hg w3 hbox hb;have BK:=zA hbox;have GW:=zA (qg hg);replace HB:=zA (zH qb hb);clear hb hbox hg;have hcz0:=qx BK 0;have hcz1:=qx BK 1)|((with_reducible refine zU (f:=30) rfl ?_);refine gL (some 17) Tryd.func30 #[.agg #[.slice A0_0 l0_0.length c0_0,.slice A0_1 l0_1.length c0_1]] ?_;(with_reducible refine (model_First.calls k _ _ l0_0 _ _ l0_1 f e0 _ (qc HR0_0) HC0_0.out (qc HR0_1) HC0_1.out qD HA1.out).mono ?_);rintro e w4 ⟨rfl,hb⟩;refine ⟨_,rfl,?_⟩;replace BK:=qK BK hb;replace HB:=zA (zH qb hb);clear hb));go_ret2;exact ⟨_,rfl,Kd.R_nil _ _ _ _ _,HB.out⟩
 have q1:(e0 != 0) = false:=bne_eq_false_iff_eq.2 he;rw [if_pos he] at h;by_cases hf:0 ≤ f∧f < 1000000
 case neg=>rw [if_neg hf] at h;cases h
 rw [if_pos hf] at h;obtain ⟨sr,A2,h⟩:=zb.mp h;obtain ⟨st,A3,h⟩:=zb.mp h;simp only [Option.some.injEq,Prod.mk.injEq] at h;obtain ⟨rfl,rfl⟩:=h;have HA2:=zA A2;have HA3:=zA A3;have HF:=zA hf;have HWF:=zA (show (Lit.int .i64 f).wf = true by simp [Lit.wf,IntKind.min,IntKind.max,IntKind.signed,IntKind.bits];omega);clear A2 A3 hf;go_enter Tryd.func14,Tryd.ntmps14;go_wp2_with (first|((with_reducible refine zV (N:=1) rfl ?_);refine bq 1 (cs:=#[.slice A0_0 l0_0.length c0_0,.slice A0_1 l0_1.length c0_1]) (t:=25) ?_;intro gb hg w3 hbox hb;have BK:=zA hbox;have GW:=zA (qg hg);replace HB:=zA (zH qb hb);clear hb hbox hg;have hcz0:=qx BK 0;have hcz1:=qx BK 1)|((with_reducible refine zU (f:=30) rfl ?_);refine gL (some 17) Tryd.func30 #[.agg #[.slice A0_0 l0_0.length c0_0,.slice A0_1 l0_1.length c0_1]] ?_;(with_reducible refine (model_First.calls k _ _ l0_0 _ _ l0_1 f e0 _ (qc HR0_0) HC0_0.out (qc HR0_1) HC0_1.out qD HA1.out).mono ?_);rintro e w4 ⟨rfl,hb⟩;refine ⟨_,rfl,?_⟩;replace BK:=qK BK hb;replace HB:=zA (zH qb hb);clear hb));clear h he;rw [run_makeMap];go_simp;have HM:=zA (MapIs.made w4);have HGM:=zA HB.out.size;replace BK:=zA (zK BK.out (.map #[] 0));replace HB:=zA (zD HB.out (.map #[] 0));obtain ⟨w5,hw5⟩:∃ w5,w5 = w4.alloc (.map #[] 0):=⟨_,rfl⟩;obtain ⟨gm,hgm⟩:∃ gm,gm = w4.heap.size:=⟨_,rfl⟩;rw [← hw5] at HM BK HB ⊢;rw [← hgm] at HM HGM ⊢;clear hw5 hgm hcz0 hcz1 q1;have HNE:=zA (show some gb ≠ some gm from fun e=>by
  injection e with e;obtain ⟨es,clock,h1,_⟩:=HM.out;have h2:=BK.out;rw [e,h1] at h2
  cases h2)
 go_wp2_with (first|(refine wpList_insert_is _ rfl (.tmp 23) (.tmp 24) (.tmp 25) 64 rfl 3 63 (Go.Maps.int_keyed Tryd.underlying3) Tryd.underlying64 gm _ rfl HM.out (.int .i64 f) (.agg #[]) (.int .i64 f) rfl rfl (Go.Maps.keyOf_int_mk Tryd.underlying3 HWF.out) (fun p hp=>(nomatch hp)) (fun p hp=>(nomatch hp)) ?_;intro w6 hm6 hg6;have HM6:=zA (show MapIs w6 gm (skeys [f]) from hm6);replace BK:=zA (blk_grown BK.out hg6 HNE.out);replace HB:=zA (HB.out.grown hg6 HB.out.size (fun k hk=>by injection hk with hk;rw [← hk];exact HGM.out));clear HM hm6 hg6)|((with_reducible refine zV (N:=28) rfl ?_);refine Kd.R_lit (Kd.int .i64) _ 3 ?hg (N:=28) ?hd (xs:=([f]:List Int)) (inner:=[.int .i64 f]) (ok:=fun _=>True) (okp:=fun _=>True) ?hr ?hp (fun _ hk=>hk) trivial (Below.refl _ _) (Nat.le_refl _) (by simp) ?_;(case hd=>rfl);(case hg=>rfl);(case hr=>first|(go_simp;done)|(go_simp;rfl));(case hp=>exact (Reps.one (show Kd.M (Kd.int .i64) _ _ _ f [.int .i64 f] from rfl) (Reps.none _ _)));intro v7 w7 ho7 hb7 hg7 hn7;have HO:=zA (Kd.R_lower ho7 HB.out.size);replace HM6:=zA (HM6.out.below hb7 HM6.out.lt);replace BK:=zA (zN BK.out hb7);replace HB:=zA (zH HB.out hb7);clear ho7 hb7 hg7 hn7));have HR:=zA (show RchIn w.heap.size gb gm _ v7 [f] (.slice none 0 0) [] w7 from ⟨BK.out,HM6.out,HO.out,Kd.R_nil _ _ _ _ _,fun s hs=>by rw [List.mem_singleton.1 hs];exact HF.out⟩);clear BK HM6 HO HNE;go_loopg [7,8] k (fun kq v7 v8 w'=>∃ (x:Int) (l:List Int),v8 = .int .i64 x∧Aside0 (step_Reach.l0 kq l0_0 l0_1 x l = some sr)∧Aside0 (kq ≤ k)∧Aside0 (RchIn w.heap.size gb gm #[.slice A0_0 l0_0.length c0_0,.slice A0_1 l0_1.length c0_1] v7 l (.slice none 0 0) [] w')∧Aside0 (Below w.heap.size w w'))
 case atStart=>exact ⟨0,[f],rfl,HA2,⟨Nat.le_refl _⟩,HR,HB⟩
 case round =>
  clear HA2 HR HB;obtain ⟨x,l,rfl,HA,HK,HR,HB⟩:=hrel;cases gk with
  | zero=>exact absurd HA.out (by simp [step_Reach.l0])
  | succ k1 =>
  have h:=HA.out;clear HA;simp only [step_Reach.l0] at h;obtain ⟨A7,c7,e7⟩:=Kd.R_slice HR.out.o;subst e7;by_cases hlt:x < (l.length:Int)
  case neg =>
   have hq:decide (x < (l.length:Int)) = false:=zR hlt;rw [if_neg hlt] at h;injection h with h;subst h;have HO:=zA HR.out.o;clear hlt HR;go_wp2_with (first|((with_reducible refine zU (f:=31) rfl ?_);refine gL (some 67) Tryd.func31 #[.slice A7 l.length c7] ?_;(with_reducible refine (slices_Sort_int_int.calls (fun k_=>some k_ = (.slice A7 l.length c7:Value).ownBlock) (.slice A7 l.length c7) l st w _ HB.out (Kd.R_tight rfl HO.out) HA3.out).mono ?_);rintro e w29 ⟨rfl,hy0,hb,hkp⟩;refine ⟨_,rfl,?_⟩;replace HO:=zA (Kd.R_reok rfl hy0 (fun k_ e_=>HO.out.1 k_ e_));replace HB:=zA hb;clear hy0 hb hkp));go_ret2;exact ⟨_,rfl,HO.out,HB.out⟩
  have hq:decide (x < (l.length:Int)) = true:=zQ hlt;rw [if_pos hlt] at h;by_cases h0:0 ≤ x
  case neg=>rw [if_neg h0] at h;cases h
  rw [if_pos h0] at h;obtain ⟨⟨ns,e1⟩,A4,h⟩:=zb.mp h;dsimp only at h;by_cases h1:rchOk ns = true
  case neg=>rw [if_neg h1] at h;cases h
  rw [if_pos h1] at h;by_cases h2:(addNew l ns).length ≤ 1000000
  case neg=>rw [if_neg h2] at h;cases h
  rw [if_pos h2] at h;have HA4:=zA A4;have HA5:=zA h;have HOk:=zA h1;have HLen:=zA h2;clear A4 h h1 h2;have HO:=zA HR.out.o;have HM:=zA HR.out.m;have BK:=zA HR.out.b;have HKs:=zA HR.out.k;have p7:0 ≤ (x:Int):=h0;have q7:x < (l.length:Int):=hlt;(try (obtain ⟨A_,c_,e_⟩:=Kd.R_slice HO.out;subst e_));obtain ⟨ad7,e7,hx7⟩:=Kd.at_int (Kd.R_reads' HO.out).2.2 x p7 q7;cases e7;replace p7:=eq_true p7;replace q7:=eq_true q7;clear HR h0 hlt;go_wp2;replace HO:=zA (Kd.R_drew HO.out);replace BK:=zA (zM BK.out);replace HB:=zA (zE HB.out);replace HM:Aside0 (MapIs wr.drew gm (skeys l)):=zA (HM.out.same rfl);(try (obtain ⟨A_,c_,e_⟩:=Kd.R_slice HO.out;subst e_));obtain ⟨ad,ead,hx⟩:=Kd.at_int (Kd.R_reads' HO.out).2.2 x (by simpa using p7) (by simpa using q7);obtain rfl:ad7 = ad:=(by injection ead);refine start_ (n:=11) (S:=fun w'=>w'.cell? ⟨gb,0,none⟩ = some (.slice A0_0 l0_0.length c0_0)∧w'.cell? ⟨gb,1,none⟩ = some (.slice A0_1 l0_1.length c0_1)∧w'.cell? (ad7.add (x).toNat) = some (.int .i64 (rd l x))) (ds:=[]) #[false,false,false,false,false,false,false,false,false,false,false] (by kernel_rfl) rfl rfl ⟨(zI BK.out 0).trans rfl,(zI BK.out 1).trans rfl,hx⟩ (fun hHeld=>?_);refine with_tabW step_Reach.tab9 step_Reach.bits9 (fun HT_ HW_=>?_);generalize wr.drew = w50 at HO BK HM HB hx hHeld ⊢;refine pq 1 (some 37) HT_ ?_;refine pq 2 (some 38) HT_ ?_;refine tq 0 (some 36) HT_ HW_ hHeld ?_;refine pq 3 (some 39) HT_ ?_;refine tq 4 (some 40) HT_ HW_ hHeld ?_;refine oq 5 (some 41) HT_ (fun K hK=>?_);refine gq Tryd.func11 #[.agg #[.slice A0_0 l0_0.length c0_0,.slice A0_1 l0_1.length c0_1],.int .i64 (rd l x)] ?_;(with_reducible refine (step_Next.calls k1 _ _ l0_0 _ _ l0_1 (rd l x) ns e1 _ (qc HR0_0) HC0_0.out (qc HR0_1) HC0_1.out qD HA4.out).mono ?_);rintro e w51 ⟨v9,rfl,ho0,hb⟩;have HS2_:=(hb.cell (zB _ _ (hHeld.2.2))).trans (hHeld.2.2);refine ⟨_,rfl,?_⟩;have HN:=zA (Kd.R_lower (Kd.R_new' ho0 (Kd.R_lt HO.out)) HB.out.size);replace HO:=zA (Kd.R_elder' HO.out (Kd.R_base ho0) hb);replace HM:=zA (HM.out.below hb HM.out.lt);replace BK:=zA (zN BK.out hb);replace HB:=zA (zH HB.out hb);clear hb ho0;refine hK.out _ _ ⟨(zI BK.out 0).trans rfl,(zI BK.out 1).trans rfl,HS2_⟩ (fun hHeld=>?_);clear hK K;refine norm_ (a':=?_) ?_ ?_;rotate_left
  ·show Act.put _ (some 41) _ = _;simp only [Act.put,zX,zY,zZ,i64_w,i32_w];rfl
  refine pq 6 (some 35) HT_ ?_;refine pq 7 (some 42) HT_ ?_;refine pq 8 (some 43) HT_ ?_;refine pq 9 (some 9) HT_ ?_;refine pq 10 (some 10) HT_ ?_;refine done_ (done_of HT_.out (by kernel_rfl)) ?_;have HR:=zA (show RchIn w.heap.size gb gm _ _ l v9 ns w51 from ⟨BK.out,HM.out,Kd.R_mono HO.out (fun _ _=>trivial),Kd.R_mono HN.out (fun _ hk=>hk.2),HKs.out⟩);clear HO HM BK HKs HN hx hx7 hHeld HT_ HW_ HS2_;obtain ⟨A9,c9,e9⟩:=Kd.R_slice HR.out.n;subst e9;obtain ⟨L,hL⟩:∃ L,L = addNew l ns:=⟨_,rfl⟩;rw [← hL] at HA5 HLen;have HL:=zA hL.symm;clear hL;go_wp2;go_loopg [7,46] (ns.length + 1) (fun kq v7 v46 w'=>∃ (j:Nat) (y:Int) (l':List Int),v46 = .int .i64 y∧Aside0 (y = (j:Int))∧Aside0 (kq + j = ns.length + 1)∧Aside0 (addNew l' (ns.drop j) = L)∧Aside0 (RchIn w.heap.size gb gm #[.slice A0_0 l0_0.length c0_0,.slice A0_1 l0_1.length c0_1] v7 l' (.slice A9 ns.length c9) ns w')∧Aside0 (Below w.heap.size w w'))
  case atStart=>exact ⟨0,0,l,rfl,⟨rfl⟩,⟨rfl⟩,HL,HR,HB⟩
  case round =>
   clear HR HB HL;obtain ⟨j,y,l',rfl,HY,HJ,HL,HR,HB⟩:=hrel;obtain ⟨A8,c8,e8⟩:=Kd.R_slice HR.out.o;subst e8;by_cases hlt:y < (ns.length:Int)
   case neg =>
    have hq:decide (y < (ns.length:Int)) = false:=zR hlt;have hl:=HL.out;rw [List.drop_of_length_le (qo HY),addNew] at hl;subst hl;clear hlt;go_wp2;go_roundg k1
    case measure=>have:=HK.out;omega
    case rel=>exact ⟨wrap64 (x + 1),l',by first|rfl|simp [i64_w],HA5,⟨qo HK⟩,⟨⟨HR.out.b,HR.out.m,HR.out.o,Kd.R_nil _ _ _ _ _,HR.out.k⟩⟩,HB⟩
   have hq:decide (y < (ns.length:Int)) = true:=zQ hlt;have hy0:0 ≤ y:=by have:=HY.out;omega
   have p9:0 ≤ (y:Int):=hy0;have q9:y < (ns.length:Int):=hlt;obtain ⟨ad9,e9,hx9⟩:=Kd.at_int (Kd.R_reads' HR.out.n).2.2 y p9 q9;cases e9;replace p9:=eq_true p9;replace q9:=eq_true q9;have hl:=HL.out;have hjl:j < ns.length:=by have:=HY.out;omega
   have hX:rd ns y = ns[j]:=by rw [HY.out];unfold rd;simp [hjl]
   rw [List.drop_eq_getElem_cons hjl,addNew,← hX] at hl;have hXr:0 ≤ rd ns y∧rd ns y < 1000000:=by rw [hX];exact zP (List.all_eq_true.1 (Bool.and_eq_true_iff.1 HOk.out).2 _ (List.getElem_mem hjl))
   have HXr:=zA hXr;have HWX:=zA (show (Lit.int .i64 (rd ns y)).wf = true by simp [Lit.wf,IntKind.min,IntKind.max,IntKind.signed,IntKind.bits];omega);have HLT:=zA hjl;have e4:IntKind.i64.wrap (y + 1) = ((j + 1:Nat):Int):=by
    have h9:=zP (Bool.and_eq_true_iff.1 HOk.out).1;have:=HY.out;rw [IntKind.wrap_i64];omega
   clear hX hXr hjl hlt hy0;generalize rd ns y = X at hl hx9 HXr HWX;by_cases hs:l'.any (· == X) = true
   ·rw [if_pos hs] at hl;have HL2:=zA hl;have hlook:=MapIs.look_some HR.out.m (Go.Maps.int_keyed Tryd.underlying3) Tryd.underlying64 (skeys_ok HR.out.k) (key:=.int .i64 X) (v:=.agg #[]) (Go.Maps.keyOf_int_mk Tryd.underlying3 HWX.out) true (fun p hp _=>by obtain ⟨s,_,rfl⟩:=List.mem_map.1 hp;rfl) (by
     obtain ⟨s,hs1,hs2⟩:=List.any_eq_true.1 hs;refine ⟨_,List.mem_map.2 ⟨s,hs1,rfl⟩,?_⟩
     rw [beq_iff_eq.1 hs2])
    simp only [if_true] at hlook;clear hs hl;go_wp2_with fail;go_roundg (ns.length - j)
    case measure=>have:=HJ.out;have:=HLT.out;omega
    case rel=>exact ⟨j + 1,((j + 1:Nat):Int),l',rfl,⟨rfl⟩,⟨qp HJ HLT⟩,HL2,⟨HR.out.alloc _⟩,⟨zD HB.out _⟩⟩
   rw [if_neg hs] at hl;have HL2:=zA hl;have HS2:=zA hs;have hlook:=MapIs.look_none HR.out.m (Go.Maps.int_keyed Tryd.underlying3) Tryd.underlying64 (skeys_ok HR.out.k) (zeroU wr) (key:=.int .i64 X) (Go.Maps.keyOf_int_mk Tryd.underlying3 HWX.out) true (fun p hp he=>by
    obtain ⟨s,hs1,rfl⟩:=List.mem_map.1 hp;injection he with _ he;subst he
    exact hs (List.any_eq_true.2 ⟨_,hs1,by simp⟩))
   simp only [if_true] at hlook;have HLl:=zA (show (l'.length + 1) * 8 ≤ 140737488355328 by
    obtain ⟨⟨s,e⟩,_⟩:=addNew_spec (ns.drop (j + 1)) (l' ++ [X]);have h1:=congrArg List.length (hl.symm.trans e);have h2:=HLen.out;simp only [List.length_append,List.length_singleton] at h1
    omega)
   clear hs hl;go_upto_region 15 with fail;have HR3:=zA (HR.out.alloc (.cells #[] 63));have HB3:=zA (zD HB.out (.cells #[] 63));obtain ⟨w3,hw3⟩:∃ w3,w3 = wr.alloc (.cells #[] 63):=⟨_,rfl⟩;rw [← hw3] at HR3 HB3 ⊢;clear hw3 hlook HR HB hx9;go_upto_region 17 with (first|(refine wpList_mapPut_is _ rfl (.tmp 58) (.tmp 59) (.tmp 60) 64 rfl 3 63 (Go.Maps.int_keyed Tryd.underlying3) Tryd.underlying64 gm _ rfl HR3.out.m (.int .i64 X) (.agg #[]) (.int .i64 X) rfl rfl (Go.Maps.keyOf_int_mk Tryd.underlying3 HWX.out) (skeys_ok HR3.out.k) ?hn ?_;(case hn=>(intro p hp he;obtain ⟨s,hs1,rfl⟩:=List.mem_map.1 hp;injection he with _ he;subst he;exact HS2.out (List.any_eq_true.2 ⟨_,hs1,by simp⟩)));intro w4 hm4 hg4;have HM4:=zA (show MapIs w4 gm (skeys (l' ++ [X])) by unfold skeys;rw [List.map_append];exact hm4);have HP4:=zA (HR3.out.put hg4);have HK4:=zA HR3.out.k;have HB4:=zA (HB3.out.grown hg4 HB3.out.size (fun k hk=>by injection hk with hk;rw [← hk];exact HGM.out));clear hm4 hg4 HR3 HB3)|(at_builtin;refine Kd.R_append (Kd.int .i64) w.heap.size rfl (.tmp 61) (.tmp 63) 32 3 (.int .i64 0) 8 rfl Tryd.underlying32 info3 rfl (by decide) (by decide) (.slice A8 l'.length c8) l' X [.int .i64 X] (fun _=>True) (fun _=>False) rfl rfl ?aP (fun _ h=>h.elim) (fun _ _=>trivial) HP4.out.2.1 (Below.refl _ _) HB4.out.size HLl.out ?_;(case aP=>rfl);intro v2 w2 ho hb hg hat;have HR5:=zA (RchIn.add HP4.out.1 HM4.out HP4.out.2.1 HP4.out.2.2 HK4.out HXr.out ho hg hat);have HB5:=zA (HB4.out.trans hb);clear ho hb hg hat HP4 HM4 HK4 HB4));go_wp2;go_roundg (ns.length - j)
   case measure=>have:=HJ.out;have:=HLT.out;omega
   case rel=>exact ⟨j + 1,((j + 1:Nat):Int),l' ++ [X],rfl,⟨rfl⟩,⟨qp HJ HLT⟩,HL2,HR5,HB5⟩
end
end Go.Proofs.YtbekikafhpdehaaDoor.T
namespace Go.Proofs.YtbekikafhpdehaaDoor.T
open Go.Proofs.YtbekikafhpdehaaDoor.Al
open Go.Proofs.YtbekikafhpdehaaDoorW.PrintWords renaming below_step → zH, blk_frozen → zJ, gate_dst → zV
open Go.Proofs.YtbekikafhpdehaaDoor.Sq
open Go.RowKit Go.Proofs.YtbekikafhpdehaaDoorW.PrintWords Go.Proofs.YtbekikafhpdehaaDoorW.PrintLast Go.Proofs.YtbekikafhpdehaaDoorW.PrintMore
attribute [local go_sem] max2_int min2_int max_two min_two max_three min_three max_four min_four
set_option linter.unusedVariables false
set_option linter.unusedSimpArgs false
def foretellref_behindVar.l0:Nat → Int → Int → List (S58) → List (S49) → Option (Int)
 | 0,_,_,_,_=>none
 | k + 1,x5,x6,x344000,x344001=>if x6 < (x344000.length:Int) then (if 0 ≤ x6 then (foretellref_behindVar.l0 k (wrap64 (x5 * (wrap64 ((wrap64 (((rd_T58 x344000 x6).f2) - ((rd_T58 x344000 x6).f1))) + 1)))) (wrap64 (x6 + 1)) x344000 x344001) else (none)) else (some x5)
def foretellref_behindVar.f (k:Nat) (l0_0:List (S58)) (l0_1:List (S49)) (a1:Int):Option (Int):=foretellref_behindVar.l0 k 1 (wrap64 (a1 + 1)) l0_0 l0_1
theorem foretellref_behindVar.mono_l:∀ k,(∀ y0 y1 y2 y3,LeO (foretellref_behindVar.l0 k y0 y1 y2 y3) (foretellref_behindVar.l0 (k + 1) y0 y1 y2 y3))
 | 0=>fun _ _ _ _ r h=>by simp [foretellref_behindVar.l0] at h
 | k + 1=>by
  have ih0:=foretellref_behindVar.mono_l k
  ·intro y0 y1 y2 y3
   unfold foretellref_behindVar.l0
   exact qL
theorem foretellref_behindVar.mono:∀ a0 a1 a2 k,LeO (foretellref_behindVar.f k a0 a1 a2) (foretellref_behindVar.f (k + 1) a0 a1 a2):=by
 intro a0 a1 a2 k;have ih0:=foretellref_behindVar.mono_l k;unfold foretellref_behindVar.f;exact qL
set_option maxHeartbeats 8000000 in
set_option maxRecDepth 100000 in
theorem foretellref_behindVar.calls (k:Nat) (A0_0:Option Addr) (c0_0:Nat) (l0_0:List (S58)) (A0_1:Option Addr) (c0_1:Nat) (l0_1:List (S49)) (a1:Int) (r:Int) (w:World) (hr0_0:Kd.C k58 w A0_0 l0_0.length l0_0) (hc0_0:l0_0.length ≤ c0_0) (hr0_1:Kd.C k49 w A0_1 l0_1.length l0_1) (hc0_1:l0_1.length ≤ c0_1) (h:foretellref_behindVar.f k l0_0 l0_1 a1 = some r) :
  Calls Tryd.prog 39 #[.agg #[.slice A0_0 l0_0.length c0_0,.slice A0_1 l0_1.length c0_1],.int .i64 a1] w fun e w'=>e = .returned (.int .i64 r)∧Below w.heap.size w w':=by
 have hu25:=Tryd.underlying25;have HR0_0:=zA hr0_0;have HC0_0:=zA hc0_0;clear hr0_0 hc0_0;have HR0_1:=zA hr0_1;have HC0_1:=zA hc0_1;clear hr0_1 hc0_1;have HB:=zA (Below.refl w.heap.size w);have H:(foretellref_behindVar.l0 k 1 (wrap64 (a1 + 1)) l0_0 l0_1) = some r:=h;clear h;have H':=zA H;clear H;go_enter Tryd.func39,Tryd.ntmps39;go_wp2_with (first|((with_reducible refine zV (N:=2) rfl ?_);refine bq 2 (cs:=#[.slice A0_0 l0_0.length c0_0,.slice A0_1 l0_1.length c0_1]) (t:=25) ?_;intro gb343 hg w3 hbox hb;have BK343:=zA (hbox);have GW343:=zA (qg hg);have GE343:=zA (qg hg);replace HB:=zA (zH qb hb);clear hb hbox hg));(repeat (go_quiet (first|((with_reducible refine zV (N:=2) rfl ?_);refine bq 2 (cs:=#[.slice A0_0 l0_0.length c0_0,.slice A0_1 l0_1.length c0_1]) (t:=25) ?_;intro gb343 hg w3 hbox hb;have BK343:=zA (hbox);have GW343:=zA (qg hg);have GE343:=zA (qg hg);replace HB:=zA (zH qb hb);clear hb hbox hg));try go_wp2_with (first|((with_reducible refine zV (N:=2) rfl ?_);refine bq 2 (cs:=#[.slice A0_0 l0_0.length c0_0,.slice A0_1 l0_1.length c0_1]) (t:=25) ?_;intro gb343 hg w3 hbox hb;have BK343:=zA (hbox);have GW343:=zA (qg hg);have GE343:=zA (qg hg);replace HB:=zA (zH qb hb);clear hb hbox hg))));go_loopg [5,6] k (fun kq v5 v6 w'=>∃ (x5_1:Int) (x6_1:Int),v5 = .int .i64 x5_1∧v6 = .int .i64 x6_1∧Aside0 (foretellref_behindVar.l0 kq x5_1 x6_1 l0_0 l0_1 = some r)∧Aside0 (kq ≤ k)∧Aside0 (w'.heap[gb343]? = some (.cells #[(.slice A0_0 l0_0.length c0_0),(.slice A0_1 l0_1.length c0_1)] 25 (0,0)))∧Aside0 (Below w.heap.size w w'))
 case atStart=>exact ⟨(1),(wrap64 (a1 + 1)),qr,qr,H',⟨Nat.le_refl _⟩,⟨qk BK343⟩,⟨qb⟩⟩
 case round =>
  clear H';obtain ⟨x5_1,x6_1,rfl,rfl,HA,HK1,BK343,HB⟩:=hrel;cases gk with
  | zero=>exact absurd HA.out (by simp [foretellref_behindVar.l0])
  | succ k1 =>
   have H:=HA.out;clear HA;simp only [foretellref_behindVar.l0] at H;rcases qj H with ⟨c4b0,H⟩|⟨c4b0,H⟩
   ·rcases qj H with ⟨c5b0,H⟩|⟨c5,H⟩
    ·have H':=zA H;clear H;have hcz6_0:=qx BK343 0;have hcz6_1:=qx BK343 1;have hfz6_0:=zJ BK343.out 0;have hfz6_1:=zJ BK343.out 1;have p344:0 ≤ (x6_1:Int):=qd;have q344:x6_1 < (l0_0.length:Int):=qd;obtain ⟨ad344,e344,hx344_0,hx344_1,hx344_2,hx344_3⟩:=at_T58 HR0_0.out x6_1 p344 q344;cases e344;replace hx344_0:=qy HB hx344_0;replace hx344_1:=qy HB hx344_1;replace hx344_2:=qy HB hx344_2;replace hx344_3:=qy HB hx344_3;replace p344:=eq_true p344;replace q344:=eq_true q344;have p345:0 ≤ (x6_1:Int):=qd;have q345:x6_1 < (l0_0.length:Int):=qd;obtain ⟨ad345,e345,hx345_0,hx345_1,hx345_2,hx345_3⟩:=at_T58 HR0_0.out x6_1 p345 q345;obtain rfl:ad344 = ad345:=(by injection e345);replace hx345_0:=qy HB hx345_0;replace hx345_1:=qy HB hx345_1;replace hx345_2:=qy HB hx345_2;replace hx345_3:=qy HB hx345_3;replace p345:=eq_true p345;replace q345:=eq_true q345;go_wp2;(repeat (go_quiet (fail);try go_wp2));go_roundg k1
     case measure=>have:=HK1.out;omega
     case rel=>exact ⟨(wrap64 (x5_1 * (wrap64 ((wrap64 (((rd_T58 l0_0 x6_1).f2) - ((rd_T58 l0_0 x6_1).f1))) + 1)))),(wrap64 (x6_1 + 1)),qr,qr,H',⟨qo HK1⟩,⟨qk BK343⟩,⟨qb⟩⟩
    ·exact absurd H (by simp)
   ·obtain rfl:=Option.some.inj H;have hcz7_0:=qx BK343 0;have hcz7_1:=qx BK343 1;have hfz7_0:=zJ BK343.out 0;have hfz7_1:=zJ BK343.out 1;go_wp2;(repeat (go_quiet (fail);try go_wp2));go_ret;exact ⟨qe,qb⟩
end Go.Proofs.YtbekikafhpdehaaDoor.T
namespace Go.Proofs.YtbekikafhpdehaaDoor.T
open Go.Proofs.YtbekikafhpdehaaDoor.Al
open Option renaming bind_eq_some_iff → zb
open Go.Proofs.YtbekikafhpdehaaDoorW.PrintWords renaming gate_callee → zU
open Go.Proofs.YtbekikafhpdehaaDoor.Sq
open Go.RowKit Go.Proofs.YtbekikafhpdehaaDoorW.PrintWords Go.Proofs.YtbekikafhpdehaaDoorW.PrintLast Go.Proofs.YtbekikafhpdehaaDoorW.PrintMore
attribute [local go_sem] max2_int min2_int max_two min_two max_three min_three max_four min_four
set_option linter.unusedVariables false
set_option linter.unusedSimpArgs false
mutual
def foretellref_NameMay.j0:Nat → ByteArray → Bool → Option (Bool)
 | 0,_,_=>none
 | k + 1,x0,x17=>if x17 = true then (some false) else (foretellref_NameMay.l0 k x0 0)
def foretellref_NameMay.l0:Nat → ByteArray → Int → Option (Bool)
 | 0,_,_=>none
 | k + 1,x0,x3=>if x3 < (x0.size:Int) then (if 0 ≤ x3 then ((foretellref_In.f (wrap64 (bt x0 x3)) 97 122).bind fun t347=>((foretellref_In.f (wrap64 (bt x0 x3)) 48 57).bind fun t348=>(if t347 = true then (if x3 = 0 then (if t348 = true then (some false) else (foretellref_NameMay.l0 k x0 (wrap64 (x3 + 1)))) else (foretellref_NameMay.l0 k x0 (wrap64 (x3 + 1)))) else (if t348 = true then (if x3 = 0 then (some false) else (foretellref_NameMay.l0 k x0 (wrap64 (x3 + 1)))) else (some false))))) else (none)) else (some true)
end
def foretellref_NameMay.f (k:Nat) (a0:ByteArray):Option (Bool):=(foretellref_In.f (a0.size:Int) 1 8).bind fun t346=>(if t346 = true then (if a0.toList = ([121,101,115]:List UInt8) then (foretellref_NameMay.j0 k a0 true) else (foretellref_NameMay.j0 k a0 (a0.toList == ([110,111]:List UInt8)))) else (foretellref_NameMay.j0 k a0 true))
theorem foretellref_NameMay.mono_l:∀ k,(∀ y0 y1,LeO (foretellref_NameMay.j0 k y0 y1) (foretellref_NameMay.j0 (k + 1) y0 y1))∧(∀ y0 y1,LeO (foretellref_NameMay.l0 k y0 y1) (foretellref_NameMay.l0 (k + 1) y0 y1))
 | 0=>⟨fun _ _ r h=>by simp [foretellref_NameMay.j0] at h,fun _ _ r h=>by simp [foretellref_NameMay.l0] at h⟩
 | k + 1=>by
  obtain ⟨ih0,ih1⟩:=foretellref_NameMay.mono_l k
  refine ⟨?_,?_⟩
  ·intro y0 y1
   unfold foretellref_NameMay.j0
   exact qL
  ·intro y0 y1
   unfold foretellref_NameMay.l0
   exact qL
theorem foretellref_NameMay.mono:∀ a0 k,LeO (foretellref_NameMay.f k a0) (foretellref_NameMay.f (k + 1) a0):=by
 intro a0 k;obtain ⟨ih0,ih1⟩:=foretellref_NameMay.mono_l k;unfold foretellref_NameMay.f;exact qL
set_option maxHeartbeats 8000000 in
set_option maxRecDepth 100000 in
theorem foretellref_NameMay.calls (k:Nat) (a0:ByteArray) (r:Bool) (w:World) (h:foretellref_NameMay.f k a0 = some r) :
  Calls Tryd.prog 88 #[.string a0] w fun e w'=>e = .returned (.bool r)∧Drawn0 w w':=by
 have H:((foretellref_In.f (a0.size:Int) 1 8).bind fun t346=>(if t346 = true then (if a0.toList = ([121,101,115]:List UInt8) then (foretellref_NameMay.j0 k a0 true) else (foretellref_NameMay.j0 k a0 (a0.toList == ([110,111]:List UInt8)))) else (foretellref_NameMay.j0 k a0 true))) = some r:=h;clear h;have HC2:=zA H;clear H;go_enter Tryd.func88,Tryd.ntmps88;go_upto_region 1 with (fail);go_cut [17] (fun v17 wc=>∃ (kq:Nat) (x17_1:Bool),v17 = .bool x17_1∧Aside0 (foretellref_NameMay.j0 kq a0 x17_1 = some r)∧Aside0 (kq ≤ k)∧Drawn0 w wc)
 case first =>
  have H:=HC2.out;clear HC2;replace H:=zb.mp H;obtain ⟨t346,A30,H⟩:=H;replace H:(if t346 = true then (if a0.toList = ([121,101,115]:List UInt8) then (foretellref_NameMay.j0 k a0 true) else (foretellref_NameMay.j0 k a0 (a0.toList == ([110,111]:List UInt8)))) else (foretellref_NameMay.j0 k a0 true)) = some r:=H;have A3:=zA A30;clear A30;by_cases c4:t346 = true
  ·subst c4;have H1:(if a0.toList = ([121,101,115]:List UInt8) then (foretellref_NameMay.j0 k a0 true) else (foretellref_NameMay.j0 k a0 (a0.toList == ([110,111]:List UInt8)))) = some r:=by rw [if_pos rfl] at H;exact H
   clear H;have H:=H1;clear H1;by_cases c5:a0.toList = ([121,101,115]:List UInt8)
   ·rw [if_pos c5] at H;have c5b0:(a0.toList == ([121,101,115]:List UInt8)) = true:=beq_iff_eq.mpr c5;have c5b1:(a0.toList != ([121,101,115]:List UInt8)) = false:=bne_eq_false_iff_eq.mpr c5;clear c5;(first|rw [c5b0]|(simp only [i64_w,i32_w];rw [c5b0])|skip);have H':=zA H;clear H;go_wp2_with (first|((with_reducible refine zU (f:=24) rfl ?_);refine gL (some 8) Tryd.func24 #[.int .i64 (a0.size:Int),.int .i64 1,.int .i64 8] ?_;(with_reducible refine (foretellref_In.calls (a0.size:Int) 1 8 true _ A3.out).mono ?_);rintro e w' ⟨rfl,⟨nd,rfl⟩⟩;refine ⟨_,rfl,?_⟩));go_meet
    case rel=>exact ⟨_,(true),qr,H',⟨qm⟩,qt⟩
   ·rw [if_neg c5] at H;have c5b0:(a0.toList == ([121,101,115]:List UInt8)) = false:=beq_eq_false_iff_ne.mpr c5;have c5b1:(a0.toList != ([121,101,115]:List UInt8)) = true:=bne_iff_ne.mpr c5;(first|rw [c5b0]|(simp only [i64_w,i32_w];rw [c5b0])|skip);have H':=zA H;clear H;go_wp2_with (first|((with_reducible refine zU (f:=24) rfl ?_);refine gL (some 8) Tryd.func24 #[.int .i64 (a0.size:Int),.int .i64 1,.int .i64 8] ?_;(with_reducible refine (foretellref_In.calls (a0.size:Int) 1 8 true _ A3.out).mono ?_);rintro e w' ⟨rfl,⟨nd,rfl⟩⟩;refine ⟨_,rfl,?_⟩));go_meet
    case rel=>exact ⟨_,((a0.toList == ([110,111]:List UInt8))),qr,H',⟨qm⟩,qt⟩
  ·replace c4:=Bool.eq_false_iff.mpr c4;subst c4;have H1:(foretellref_NameMay.j0 k a0 true) = some r:=by rw [if_neg (show ¬ (false = true) by decide)] at H;exact H
   clear H;have H:=H1;clear H1;have H':=zA H;clear H;go_wp2_with (first|((with_reducible refine zU (f:=24) rfl ?_);refine gL (some 8) Tryd.func24 #[.int .i64 (a0.size:Int),.int .i64 1,.int .i64 8] ?_;(with_reducible refine (foretellref_In.calls (a0.size:Int) 1 8 false _ A3.out).mono ?_);rintro e w' ⟨rfl,⟨nd,rfl⟩⟩;refine ⟨_,rfl,?_⟩));go_meet
   case rel=>exact ⟨_,(true),qr,H',⟨qm⟩,qt⟩
 case rest =>
  clear HC2;obtain ⟨kq,x17_1,rfl,HA,HJ1,⟨mc1,rfl⟩⟩:=hcut;cases kq with
  | zero=>exact absurd HA.out (by simp [foretellref_NameMay.j0])
  | succ kj1 =>
   have H:=HA.out;clear HA;simp only [foretellref_NameMay.j0] at H;by_cases c6:x17_1 = true
   ·subst c6;have H1:(some false) = some r:=by rw [if_pos rfl] at H;exact H
    clear H;have H:=H1;clear H1;obtain rfl:=Option.some.inj H;go_wp2;go_ret;exact ⟨qr,qt⟩
   ·replace c6:=Bool.eq_false_iff.mpr c6;subst c6;have H1:(foretellref_NameMay.l0 kj1 a0 0) = some r:=by rw [if_neg (show ¬ (false = true) by decide)] at H;exact H
    clear H;have H:=H1;clear H1;have H':=zA H;clear H;go_wp2;go_loopg [3] kj1 (fun kq v3 w'=>∃ (x3_2:Int),v3 = .int .i64 x3_2∧Aside0 (foretellref_NameMay.l0 kq a0 x3_2 = some r)∧Aside0 (kq ≤ kj1)∧Drawn0 w w')
    case atStart=>exact ⟨(0),qr,H',⟨Nat.le_refl _⟩,qt⟩
    case round =>
     clear H';obtain ⟨x3_2,rfl,HA,HK2,⟨m2,rfl⟩⟩:=hrel;cases gk with
     | zero=>exact absurd HA.out (by simp [foretellref_NameMay.l0])
     | succ k2 =>
      have H:=HA.out;clear HA;simp only [foretellref_NameMay.l0] at H;rcases qj H with ⟨c7b0,H⟩|⟨c7b0,H⟩
      ·rcases qj H with ⟨c8b0,H⟩|⟨c8,H⟩
       ·replace H:=zb.mp H;obtain ⟨t347,A100,H⟩:=H;replace H:((foretellref_In.f (wrap64 (bt a0 x3_2)) 48 57).bind fun t348=>(if t347 = true then (if x3_2 = 0 then (if t348 = true then (some false) else (foretellref_NameMay.l0 k2 a0 (wrap64 (x3_2 + 1)))) else (foretellref_NameMay.l0 k2 a0 (wrap64 (x3_2 + 1)))) else (if t348 = true then (if x3_2 = 0 then (some false) else (foretellref_NameMay.l0 k2 a0 (wrap64 (x3_2 + 1)))) else (some false)))) = some r:=H;have A10:=zA A100;clear A100;replace H:=zb.mp H;obtain ⟨t348,A120,H⟩:=H;replace H:(if t347 = true then (if x3_2 = 0 then (if t348 = true then (some false) else (foretellref_NameMay.l0 k2 a0 (wrap64 (x3_2 + 1)))) else (foretellref_NameMay.l0 k2 a0 (wrap64 (x3_2 + 1)))) else (if t348 = true then (if x3_2 = 0 then (some false) else (foretellref_NameMay.l0 k2 a0 (wrap64 (x3_2 + 1)))) else (some false))) = some r:=H;have A12:=zA A120;clear A120;by_cases c13:t347 = true
        ·subst c13;have H1:(if x3_2 = 0 then (if t348 = true then (some false) else (foretellref_NameMay.l0 k2 a0 (wrap64 (x3_2 + 1)))) else (foretellref_NameMay.l0 k2 a0 (wrap64 (x3_2 + 1)))) = some r:=by rw [if_pos rfl] at H;exact H
         clear H;have H:=H1;clear H1;by_cases c14:x3_2 = 0
         ·rw [if_pos c14] at H;have c14b0:(x3_2 == 0) = true:=beq_iff_eq.mpr c14;have c14b1:(x3_2 != 0) = false:=bne_eq_false_iff_eq.mpr c14;clear c14;by_cases c15:t348 = true
          ·subst c15;have H1:(some false) = some r:=by rw [if_pos rfl] at H;exact H
           clear H;have H:=H1;clear H1;obtain rfl:=Option.some.inj H;have p9:0 ≤ (x3_2:Int):=qd;have q9:x3_2 < (a0.size:Int):=qd;have hx9:=bt_at a0 x3_2;replace p9:=eq_true p9;replace q9:=eq_true q9;go_wp2_with (first|((with_reducible refine zU (f:=24) rfl ?_);refine gL (some 28) Tryd.func24 #[.int .i64 (wrap64 (bt a0 x3_2)),.int .i64 97,.int .i64 122] ?_;(with_reducible refine (foretellref_In.calls (wrap64 (bt a0 x3_2)) 97 122 true _ A10.out).mono ?_);rintro e w' ⟨rfl,⟨nd,rfl⟩⟩;refine ⟨_,rfl,?_⟩;have p11:0 ≤ (x3_2:Int):=qd;have q11:x3_2 < (a0.size:Int):=qd;have hx11:=bt_at a0 x3_2;replace p11:=eq_true p11;replace q11:=eq_true q11)|((with_reducible refine zU (f:=24) rfl ?_);refine gL (some 33) Tryd.func24 #[.int .i64 (wrap64 (bt a0 x3_2)),.int .i64 48,.int .i64 57] ?_;(with_reducible refine (foretellref_In.calls (wrap64 (bt a0 x3_2)) 48 57 true _ A12.out).mono ?_);rintro e w' ⟨rfl,⟨nd,rfl⟩⟩;refine ⟨_,rfl,?_⟩));go_ret;exact ⟨qr,qt⟩
          ·replace c15:=Bool.eq_false_iff.mpr c15;subst c15;have H1:(foretellref_NameMay.l0 k2 a0 (wrap64 (x3_2 + 1))) = some r:=by rw [if_neg (show ¬ (false = true) by decide)] at H;exact H
           clear H;have H:=H1;clear H1;have H':=zA H;clear H;have p9:0 ≤ (x3_2:Int):=qd;have q9:x3_2 < (a0.size:Int):=qd;have hx9:=bt_at a0 x3_2;replace p9:=eq_true p9;replace q9:=eq_true q9;go_wp2_with (first|((with_reducible refine zU (f:=24) rfl ?_);refine gL (some 28) Tryd.func24 #[.int .i64 (wrap64 (bt a0 x3_2)),.int .i64 97,.int .i64 122] ?_;(with_reducible refine (foretellref_In.calls (wrap64 (bt a0 x3_2)) 97 122 true _ A10.out).mono ?_);rintro e w' ⟨rfl,⟨nd,rfl⟩⟩;refine ⟨_,rfl,?_⟩;have p11:0 ≤ (x3_2:Int):=qd;have q11:x3_2 < (a0.size:Int):=qd;have hx11:=bt_at a0 x3_2;replace p11:=eq_true p11;replace q11:=eq_true q11)|((with_reducible refine zU (f:=24) rfl ?_);refine gL (some 33) Tryd.func24 #[.int .i64 (wrap64 (bt a0 x3_2)),.int .i64 48,.int .i64 57] ?_;(with_reducible refine (foretellref_In.calls (wrap64 (bt a0 x3_2)) 48 57 false _ A12.out).mono ?_);rintro e w' ⟨rfl,⟨nd,rfl⟩⟩;refine ⟨_,rfl,?_⟩));go_roundg k2
           case measure=>have:=HJ1.out;have:=HK2.out;omega
           case rel=>exact ⟨(wrap64 (x3_2 + 1)),qr,H',⟨qp HJ1 HK2⟩,qt⟩
         ·rw [if_neg c14] at H;have c14b0:(x3_2 == 0) = false:=beq_eq_false_iff_ne.mpr c14;have c14b1:(x3_2 != 0) = true:=bne_iff_ne.mpr c14;have H':=zA H;clear H;have p9:0 ≤ (x3_2:Int):=qd;have q9:x3_2 < (a0.size:Int):=qd;have hx9:=bt_at a0 x3_2;replace p9:=eq_true p9;replace q9:=eq_true q9;go_wp2_with (first|((with_reducible refine zU (f:=24) rfl ?_);refine gL (some 28) Tryd.func24 #[.int .i64 (wrap64 (bt a0 x3_2)),.int .i64 97,.int .i64 122] ?_;(with_reducible refine (foretellref_In.calls (wrap64 (bt a0 x3_2)) 97 122 true _ A10.out).mono ?_);rintro e w' ⟨rfl,⟨nd,rfl⟩⟩;refine ⟨_,rfl,?_⟩;have p11:0 ≤ (x3_2:Int):=qd;have q11:x3_2 < (a0.size:Int):=qd;have hx11:=bt_at a0 x3_2;replace p11:=eq_true p11;replace q11:=eq_true q11)|((with_reducible refine zU (f:=24) rfl ?_);refine gL (some 33) Tryd.func24 #[.int .i64 (wrap64 (bt a0 x3_2)),.int .i64 48,.int .i64 57] ?_;(with_reducible refine (foretellref_In.calls (wrap64 (bt a0 x3_2)) 48 57 t348 _ A12.out).mono ?_);rintro e w' ⟨rfl,⟨nd,rfl⟩⟩;refine ⟨_,rfl,?_⟩));go_roundg k2
          case measure=>have:=HJ1.out;have:=HK2.out;omega
          case rel=>exact ⟨(wrap64 (x3_2 + 1)),qr,H',⟨qp HJ1 HK2⟩,qt⟩
        ·replace c13:=Bool.eq_false_iff.mpr c13;subst c13;have H1:(if t348 = true then (if x3_2 = 0 then (some false) else (foretellref_NameMay.l0 k2 a0 (wrap64 (x3_2 + 1)))) else (some false)) = some r:=by rw [if_neg (show ¬ (false = true) by decide)] at H;exact H
         clear H;have H:=H1;clear H1;by_cases c16:t348 = true
         ·subst c16;have H1:(if x3_2 = 0 then (some false) else (foretellref_NameMay.l0 k2 a0 (wrap64 (x3_2 + 1)))) = some r:=by rw [if_pos rfl] at H;exact H
          clear H;have H:=H1;clear H1;by_cases c17:x3_2 = 0
          ·rw [if_pos c17] at H;have c17b0:(x3_2 == 0) = true:=beq_iff_eq.mpr c17;have c17b1:(x3_2 != 0) = false:=bne_eq_false_iff_eq.mpr c17;clear c17;obtain rfl:=Option.some.inj H;have p9:0 ≤ (x3_2:Int):=qd;have q9:x3_2 < (a0.size:Int):=qd;have hx9:=bt_at a0 x3_2;replace p9:=eq_true p9;replace q9:=eq_true q9;go_wp2_with (first|((with_reducible refine zU (f:=24) rfl ?_);refine gL (some 28) Tryd.func24 #[.int .i64 (wrap64 (bt a0 x3_2)),.int .i64 97,.int .i64 122] ?_;(with_reducible refine (foretellref_In.calls (wrap64 (bt a0 x3_2)) 97 122 false _ A10.out).mono ?_);rintro e w' ⟨rfl,⟨nd,rfl⟩⟩;refine ⟨_,rfl,?_⟩;have p11:0 ≤ (x3_2:Int):=qd;have q11:x3_2 < (a0.size:Int):=qd;have hx11:=bt_at a0 x3_2;replace p11:=eq_true p11;replace q11:=eq_true q11)|((with_reducible refine zU (f:=24) rfl ?_);refine gL (some 33) Tryd.func24 #[.int .i64 (wrap64 (bt a0 x3_2)),.int .i64 48,.int .i64 57] ?_;(with_reducible refine (foretellref_In.calls (wrap64 (bt a0 x3_2)) 48 57 true _ A12.out).mono ?_);rintro e w' ⟨rfl,⟨nd,rfl⟩⟩;refine ⟨_,rfl,?_⟩));go_ret;exact ⟨qr,qt⟩
          ·rw [if_neg c17] at H;have c17b0:(x3_2 == 0) = false:=beq_eq_false_iff_ne.mpr c17;have c17b1:(x3_2 != 0) = true:=bne_iff_ne.mpr c17;have H':=zA H;clear H;have p9:0 ≤ (x3_2:Int):=qd;have q9:x3_2 < (a0.size:Int):=qd;have hx9:=bt_at a0 x3_2;replace p9:=eq_true p9;replace q9:=eq_true q9;go_wp2_with (first|((with_reducible refine zU (f:=24) rfl ?_);refine gL (some 28) Tryd.func24 #[.int .i64 (wrap64 (bt a0 x3_2)),.int .i64 97,.int .i64 122] ?_;(with_reducible refine (foretellref_In.calls (wrap64 (bt a0 x3_2)) 97 122 false _ A10.out).mono ?_);rintro e w' ⟨rfl,⟨nd,rfl⟩⟩;refine ⟨_,rfl,?_⟩;have p11:0 ≤ (x3_2:Int):=qd;have q11:x3_2 < (a0.size:Int):=qd;have hx11:=bt_at a0 x3_2;replace p11:=eq_true p11;replace q11:=eq_true q11)|((with_reducible refine zU (f:=24) rfl ?_);refine gL (some 33) Tryd.func24 #[.int .i64 (wrap64 (bt a0 x3_2)),.int .i64 48,.int .i64 57] ?_;(with_reducible refine (foretellref_In.calls (wrap64 (bt a0 x3_2)) 48 57 true _ A12.out).mono ?_);rintro e w' ⟨rfl,⟨nd,rfl⟩⟩;refine ⟨_,rfl,?_⟩));go_roundg k2
           case measure=>have:=HJ1.out;have:=HK2.out;omega
           case rel=>exact ⟨(wrap64 (x3_2 + 1)),qr,H',⟨qp HJ1 HK2⟩,qt⟩
         ·replace c16:=Bool.eq_false_iff.mpr c16;subst c16;have H1:(some false) = some r:=by rw [if_neg (show ¬ (false = true) by decide)] at H;exact H
          clear H;have H:=H1;clear H1;obtain rfl:=Option.some.inj H;have p9:0 ≤ (x3_2:Int):=qd;have q9:x3_2 < (a0.size:Int):=qd;have hx9:=bt_at a0 x3_2;replace p9:=eq_true p9;replace q9:=eq_true q9;go_wp2_with (first|((with_reducible refine zU (f:=24) rfl ?_);refine gL (some 28) Tryd.func24 #[.int .i64 (wrap64 (bt a0 x3_2)),.int .i64 97,.int .i64 122] ?_;(with_reducible refine (foretellref_In.calls (wrap64 (bt a0 x3_2)) 97 122 false _ A10.out).mono ?_);rintro e w' ⟨rfl,⟨nd,rfl⟩⟩;refine ⟨_,rfl,?_⟩;have p11:0 ≤ (x3_2:Int):=qd;have q11:x3_2 < (a0.size:Int):=qd;have hx11:=bt_at a0 x3_2;replace p11:=eq_true p11;replace q11:=eq_true q11)|((with_reducible refine zU (f:=24) rfl ?_);refine gL (some 33) Tryd.func24 #[.int .i64 (wrap64 (bt a0 x3_2)),.int .i64 48,.int .i64 57] ?_;(with_reducible refine (foretellref_In.calls (wrap64 (bt a0 x3_2)) 48 57 false _ A12.out).mono ?_);rintro e w' ⟨rfl,⟨nd,rfl⟩⟩;refine ⟨_,rfl,?_⟩));go_ret;exact ⟨qr,qt⟩
       ·exact absurd H (by simp)
      ·obtain rfl:=Option.some.inj H;go_wp2;go_ret;exact ⟨qr,qt⟩
end Go.Proofs.YtbekikafhpdehaaDoor.T
