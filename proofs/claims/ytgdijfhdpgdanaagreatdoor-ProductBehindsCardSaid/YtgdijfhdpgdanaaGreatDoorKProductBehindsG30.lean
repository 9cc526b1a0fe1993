import Derived.StillTailTactics
import Derived.Test.YtgdijfhdpgdanaaGreatDoorKProductBehindsG29
namespace Go.Proofs.YtgdijfhdpgdanaaGreatDoor.B
open Go.Proofs.YtgdijfhdpgdanaaGreatDoor.Al
open List renaming length_drop → zd
open Go.Proofs.YtgdijfhdpgdanaaGreatDoorW.PrintWords renaming below_alloc → zD, below_step → zH, blk_cell → zI, blk_frozen → zJ, blk_drewN → zL, Kd.C_below → zT
open Go.Proofs.YtgdijfhdpgdanaaGreatDoor.Sq Go.RowKit Go.Proofs.YtgdijfhdpgdanaaGreatDoorW.PrintWords Go.Proofs.YtgdijfhdpgdanaaGreatDoorW.PrintLast Go.Proofs.YtgdijfhdpgdanaaGreatDoorW.PrintMore
attribute [local go_sem] max2_int min2_int max_two min_two max_three min_three max_four min_four
set_option linter.unusedVariables false
set_option linter.unusedSimpArgs false
section
open Go.Proofs.YtgdijfhdpgdanaaGreatDoor.Hand
theorem first_calls (go ga bo n:Nat) (out:List Bool) (i:Nat) (w:World) (hO:w.heap[go]? = some (.cells #[.slice (some ⟨bo,0,none⟩) n n] 55 (0,0))) (hA:w.heap[ga]? = some (.cells #[.int .i64 (i:Int)] 3 (0,0)))
  (hB:w.heap[bo]? = some (.cells (bools out).toArray 4 (0,0))) (hn:out.length = n) (hi:i + 1 < n) (hm:n ≤ 60) :
  Calls Tryz.prog 88 #[.pointer (some ⟨go,0,none⟩),.pointer (some ⟨ga,0,none⟩)] w fun e w'=>e = .returned (.bool (out.getD (i + 1) false))∧w' = w:=by
 have k1:w.cell? ⟨go,0,none⟩ = some (.slice (some ⟨bo,0,none⟩) n n):=zI hO 0;have k2:w.cell? ⟨ga,0,none⟩ = some (.int .i64 (i:Int)):=zI hA 0;have k3:w.cell? ⟨bo,i + 1,none⟩ = some (.bool (out.getD (i + 1) false)):=by
  rw [zI hB];have:i + 1 < out.length:=by omega
  simp [bools,this]
 have e1:IntKind.i64.wrap ((i:Int) + 1) = ((i + 1:Nat):Int):=by rw [IntKind.wrap_i64];omega
 have hd:decide (((i + 1:Nat):Int) < (n:Int)) = true:=zQ (by omega);have hd2:decide (i + 1 < n) = true:=zQ (by omega);go_enter Tryz.func88,Tryz.ntmps88;go_wp2;go_ret;exact ⟨by simp [show i + 1 < out.length by omega],rfl⟩
theorem second_calls (go ge ga bo n:Nat) (Ae:Option Addr) (ce:Nat) (ends:List Int) (out:List Bool) (i j:Nat) (w:World) (hO:w.heap[go]? = some (.cells #[.slice (some ⟨bo,0,none⟩) n n] 55 (0,0))) (hA:w.heap[ga]? = some (.cells #[.int .i64 (i:Int)] 3 (0,0)))
  (hE:w.heap[ge]? = some (.cells #[.slice Ae n ce] 39 (0,0))) (hC:Kd.C (Kd.int .i64) w Ae n ends) (hB:w.heap[bo]? = some (.cells (bools out).toArray 4 (0,0))) (hn:out.length = n) (hi:i + 1 < n) (hm:n ≤ 60) (hj:rd ends ((i + 1:Nat):Int) = (j:Int)) (hj2:j < n) :
  Calls Tryz.prog 89 #[.pointer (some ⟨go,0,none⟩),.pointer (some ⟨ge,0,none⟩),.pointer (some ⟨ga,0,none⟩)] w fun e w'=>e = .returned (.bool (out.getD j false))∧∃ nd,w' = w.drewN nd:=by
 have k1:w.cell? ⟨go,0,none⟩ = some (.slice (some ⟨bo,0,none⟩) n n):=zI hO 0;have k2:w.cell? ⟨ga,0,none⟩ = some (.int .i64 (i:Int)):=zI hA 0;have k4:w.cell? ⟨ge,0,none⟩ = some (.slice Ae n ce):=zI hE 0;have k3:w.cell? ⟨bo,j,none⟩ = some (.bool (out.getD j false)):=by
  rw [zI hB];have:j < out.length:=by omega
  simp [bools,this]
 obtain ⟨ad,rfl,k5⟩:=Kd.at_int hC ((i + 1:Nat):Int) (by omega) (by omega);rw [hj,Int.toNat_natCast] at k5;have e1:IntKind.i64.wrap ((i:Int) + 1) = ((i + 1:Nat):Int):=by rw [IntKind.wrap_i64];omega
 have hd:decide (((i + 1:Nat):Int) < (n:Int)) = true:=zQ (by omega);have hd2:decide (i + 1 < n) = true:=zQ (by omega);have hd3:decide ((j:Int) < (n:Int)) = true:=zQ (by omega);have hd4:decide (j < n) = true:=zQ (by omega);have k6:w.cell? ⟨ad.block,ad.off + (i + 1),none⟩ = some (.int .i64 (j:Int)):=k5;have hp1:(0 ≤ (i:Int) + 1) = True:=qT (by omega);have hq1:((i:Int) + 1 < (n:Int)) = True:=qT (by omega);have hp2:(0 ≤ (j:Int)) = True:=qT (by omega);have hq2:((j:Int) < (n:Int)) = True:=qT (by omega);clear hC hO hA hE hB;go_enter Tryz.func89,Tryz.ntmps89;go_wp2;go_quiet (fail);go_wp2;go_ret;exact ⟨by simp [show j < out.length by omega],nq,rfl⟩
def zBK.f (l0:List S96) (l1:List Bool) (a2:Int):Option (List Bool × Int):=some (Pure.truthsS l0 l1 a2)
set_option maxRecDepth 100000 in
set_option maxHeartbeats 8000000 in
theorem zBK.calls (A0:Option Addr) (c0:Nat) (l0:List S96) (A1:Option Addr) (c1:Nat) (l1:List Bool) (a2:Int) (r1:List Bool) (r2:Int) (w:World) (hr0:Kd.C k96 w A0 l0.length l0) (hc0:l0.length ≤ c0) (hr1:Kd.C Kd.bool w A1 l1.length l1) (hc1:l1.length ≤ c1) (hL:LaidG w) (h:zBK.f l0 l1 a2 = some (r1,r2)) :
  Calls Tryz.prog 57 #[.slice A0 l0.length c0,.slice A1 l1.length c1,.int .i64 a2] w fun e w'=>∃ v0_:Value,e = .returned (.tuple #[v0_,.int .i64 r2])∧Kd.R Kd.bool 4 w' w.heap.size (fun _=>True) v0_ r1∧Below w.heap.size w w':=by
 have hmf:∀ (fn:Fn) (first cap:Array Value) (w:World),(Instr.makeFunc fn first cap).run Tryz.prog w = .ok (.func fn first cap) w:=fun _ _ _ _=>rfl;have h:=Option.some.inj h;obtain ⟨K,hK⟩:=Pure.ahead_ev l0 (l1.length:Int);have hA:=hK K (Nat.le_refl _);unfold Pure.aheadS at hA;unfold Pure.truthsS at h;have HR:=zA hr0;have HC:=zA hc0;have HR1:=zA hr1;have HC1:=zA hc1;have HLd:=zA hL;clear hr0 hc0 hr1 hc1 hL hK;by_cases hc:Pure.checkS l0 l1.length = 0
 ·rw [if_pos hc] at h hA;obtain ⟨h1,h2,h3,h4⟩:=Pure.checkS_ok hc;obtain ⟨h5,h6⟩:=Pure.checkS_fit hc;have hal:=Pure.aheadL_cA l0 0;have HA:=zA hA;have HH:=zA h;have HAL:=zA hal;clear hA h hal;go_enter Tryz.func57,Tryz.ntmps57;go_wp2_with (go_at_call 39;refine (zA2.calls K _ _ l0 _ _ _ _ HR.out HC.out HLd.out HA.out).mono ?_;rintro e w' ⟨v0,rfl,ho,hb⟩;obtain ⟨Ap,cp,rfl⟩:=Kd.R_slice ho;have HP:=zA ho;have HB:=zA hb;clear ho hb)
  ·have q1:a2 < 0 ∨ wrap64 (2 ^ min (Pure.aheadL l0 0).length 64) ≤ a2:=by assumption
   have hp:wrap64 (2 ^ min (Pure.aheadL l0 0).length 64) = 2 ^ Pure.cA l0:=by
    rw [HAL.out,Nat.min_eq_left (by omega)];have:Pure.cA l0 = 0 ∨ Pure.cA l0 = 1 ∨ Pure.cA l0 = 2 ∨ Pure.cA l0 = 3 ∨ Pure.cA l0 = 4 ∨ Pure.cA l0 = 5 ∨ Pure.cA l0 = 6:=by omega
    rcases this with e|e|e|e|e|e|e <;> (rw [e];exact Base.wrap_id (by decide) (by decide))
   rw [hp] at q1;have h:=HH.out;rw [if_neg (by omega)] at h;obtain ⟨rfl,rfl⟩:=Prod.mk.inj h;go_ret2;exact ⟨_,rfl,Kd.R_nil _ _ _ _ _,HB.out⟩
  ·have q1:0 ≤ a2∧a2 < wrap64 (2 ^ min (Pure.aheadL l0 0).length 64):=by assumption
   have hp:wrap64 (2 ^ min (Pure.aheadL l0 0).length 64) = 2 ^ Pure.cA l0:=by
    rw [HAL.out,Nat.min_eq_left (by omega)];have:Pure.cA l0 = 0 ∨ Pure.cA l0 = 1 ∨ Pure.cA l0 = 2 ∨ Pure.cA l0 = 3 ∨ Pure.cA l0 = 4 ∨ Pure.cA l0 = 5 ∨ Pure.cA l0 = 6:=by omega
    rcases this with e|e|e|e|e|e|e <;> (rw [e];exact Base.wrap_id (by decide) (by decide))
   rw [hp] at q1;have h:=HH.out;rw [if_pos q1] at h;obtain ⟨rfl,rfl⟩:=Prod.mk.inj h;have hE:zBD.f l0 = some ((List.range l0.length).map (endAt l0),0):=congrArg some h4;have hsz:=HB.out.size;clear hp h HH;refine (zBD.calls _ _ l0 _ _ _ (zT HR.out HB.out) HC.out (HLd.out.below HB.out) hE).mono ?_;rintro e w'' ⟨v1,rfl,ho,hb⟩;obtain ⟨Ae,ce,rfl⟩:=Kd.R_slice ho;have HE:=zA ho;have HB2:=zA (zH HB.out hb);have hsz2:=hb.size;clear ho hb hE h4;have hmk:=print_make_of (P:=Tryz.prog) 55 4 (.bool false) 1 Tryz.underlying55 info4 rfl (by omega) l0.length (by omega);rw [made_bools] at hmk;go_wp2_with fail;clear hmk;have hszA:∀ (W:World) (o:Obj),(W.alloc o).heap.size = W.heap.size + 1:=size_alloc;obtain ⟨W0,hW⟩:∃ W0,W0 = ((((w''.alloc (Obj.cells #[Value.slice Ae l0.length ce] 39)).alloc (Obj.cells (bools (List.replicate l0.length false)).toArray 4)).alloc (Obj.cells #[Value.slice (some { block:=w''.heap.size + 1,off:=0 }) l0.length l0.length] 55)).alloc (Obj.cells #[Value.int IntKind.i64 ((l0.length:Int) - 1)] 3)):=⟨_,rfl⟩;have hBW:Below w''.heap.size w'' W0:=by rw [hW];exact zD (zD (zD (zD (Below.refl _ _) _) _) _) _
   have hs4:W0.heap.size = w''.heap.size + 4:=by rw [hW];simp [hszA]
   have a1:W0.heap[w''.heap.size]? = some (.cells #[Value.slice Ae l0.length ce] 39 (0,0)):=by
    rw [hW,heap_old _ (by simp;omega),heap_old _ (by simp;omega),heap_old _ (by simp)];exact heap_new _ _
   have a2':W0.heap[w''.heap.size + 1]? = some (.cells (bools (List.replicate l0.length false)).toArray 4 (0,0)):=by
    rw [hW,heap_old _ (by simp),heap_old _ (by simp),← hszA w'' (Obj.cells #[Value.slice Ae l0.length ce] 39)];exact heap_new _ _
   have a3:W0.heap[w''.heap.size + 1 + 1]? = some (.cells #[Value.slice (some { block:=w''.heap.size + 1,off:=0 }) l0.length l0.length] 55 (0,0)):=by
    rw [hW,heap_old _ (by simp),← hszA w'' (Obj.cells #[Value.slice Ae l0.length ce] 39),← hszA _ (Obj.cells (bools (List.replicate l0.length false)).toArray 4)];exact heap_new _ _
   have a4:W0.heap[w''.heap.size + 1 + 1 + 1]? = some (.cells #[Value.int IntKind.i64 ((l0.length:Int) - 1)] 3 (0,0)):=by
    have e3:w''.heap.size + 1 + 1 + 1 = (((w''.alloc (Obj.cells #[Value.slice Ae l0.length ce] 39)).alloc (Obj.cells (bools (List.replicate l0.length false)).toArray 4)).alloc (Obj.cells #[Value.slice (some { block:=w''.heap.size + 1,off:=0 }) l0.length l0.length] 55)).heap.size:=by simp [hszA]
    rw [hW,e3];exact heap_new _ _
   rw [← hW];have hBo:∀ W2,W0.grownBy W2 (some (w''.heap.size + 1)) → Below w''.heap.size w'' W2:=fun W2 hg=>hBW.grown hg (by omega) (fun k hk=>by injection hk with hk;omega);have HBo:=zA hBo;have H1:=zA a1;have H2:=zA a2';have H3:=zA a3;have H4:=zA a4;clear hBo a1 a2' a3 a4 hW hBW hszA;go_loopg [13,14] l0.length (fun kq v13 v14 wr=>∃ ga:Nat,v13 = .int .i64 (Pure.cA (l0.take kq):Int)∧v14 = .pointer (some ⟨ga,0,none⟩)∧Aside0 (kq ≤ l0.length)∧Aside0 (W0.grownBy wr (some (w''.heap.size + 1)))∧Aside0 (wr.heap[ga]? = some (.cells #[Value.int IntKind.i64 ((kq:Int) - 1)] 3 (0,0)))∧Aside0 (wr.heap[w''.heap.size + 1]? = some (.cells (bools (List.replicate kq false ++ Pure.trS l1 a2 (l0.drop kq) (Pure.cA (l0.take kq)))).toArray 4 (0,0))))
   case atStart=>exact ⟨w''.heap.size + 1 + 1 + 1,by rw [List.take_of_length_le (Nat.le_refl _),HAL.out],rfl,⟨Nat.le_refl _⟩,⟨World.grownBy.refl _ _⟩,H4,⟨by rw [List.drop_of_length_le (Nat.le_refl _)];simpa [Pure.trS] using H2.out⟩⟩
   case round =>
    obtain ⟨ga,rfl,rfl,HK,HG,HGA,HV⟩:=hrel;have hk:=HK.out;have b1:wr.heap[w''.heap.size]? = some (.cells #[Value.slice Ae l0.length ce] 39 (0,0)):=(HG.out.block _ (blk_lt H1.out) (by intro e;injection e with e;omega)).trans H1.out;have b3:wr.heap[w''.heap.size + 1 + 1]? = some (.cells #[Value.slice (some { block:=w''.heap.size + 1,off:=0 }) l0.length l0.length] 55 (0,0)):=(HG.out.block _ (blk_lt H3.out) (by intro e;injection e with e;omega)).trans H3.out;have x1:wr.cell? ⟨ga,0,none⟩ = some (.int .i64 ((gk:Int) - 1)):=zI HGA.out 0;have x3:wr.cell? ⟨w''.heap.size + 1 + 1,0,none⟩ = some (Value.slice (some { block:=w''.heap.size + 1,off:=0 }) l0.length l0.length):=zI b3 0;cases gk with
    | zero =>
     have hq:decide (((0:Nat):Int) - 1 ≥ 0) = false:=by decide
     go_wp2;go_ret2;have hv:wr.heap[w''.heap.size + 1]? = some (.cells (bools (Pure.trS l1 a2 l0 0)).toArray 4 (0,0)):=HV.out;have hl:=Pure.trS_len l1 a2 l0 0;have hR:=R_of_bools (base:=w.heap.size) hv (by omega) (by rw [hl];omega);rw [hl] at hR;exact ⟨_,rfl,hR,zH HB2.out (HBo.out wr HG.out)⟩
    | succ i =>
     have hlt:i < l0.length:=by omega
     have hR2:Kd.C k96 wr A0 l0.length l0:=zT HR.out (zH HB2.out (HBo.out wr HG.out));obtain ⟨ad,e1,y0,y1⟩:=zA6 hR2 i (by omega) (by omega);subst e1;obtain ⟨o,ho⟩:∃ o,o = l0[i]:=⟨_,rfl⟩;have hg:zAI l0 i = o:=by rw [ho];exact Base.getD_get _ _ _ hlt
     rw [hg,Int.toNat_natCast] at y0 y1;have e1:((i + 1:Nat):Int) - 1 = (i:Int):=by omega
     rw [e1] at x1;have hq:decide ((i:Int) ≥ 0) = true:=zQ (by omega);have hidx:decide ((i:Int) < (l0.length:Int)) = true:=zQ (by omega);have hne:ga ≠ w''.heap.size + 1:=blk_ne HGA.out HV.out (by decide);have x2:wr.cell? ⟨w''.heap.size + 1,i,none⟩ = some (.bool false):=by
      rw [zI HV.out];simp only [bools,List.map_append,List.getElem?_toArray];rw [List.getElem?_append_left (by simp)];simp
     have z2:wr.frozen? ⟨w''.heap.size + 1,i,none⟩ = false:=zJ HV.out i;have hne2:w''.heap.size + 1 ≠ ga:=fun e=>hne e.symm;have hfarN:∀ (nd:Nat) v,((wr.drewN nd).setCell ⟨w''.heap.size + 1,i,none⟩ v).cell? ⟨ga,0,none⟩ = some (.int .i64 (i:Int)):=fun nd v=>(World.cell?_setCell_other (wr.drewN nd) ⟨w''.heap.size + 1,i,none⟩ ⟨ga,0,none⟩ v (by intro e;injection e with e;exact hne e.symm)).trans x1;have hfar:∀ v,(wr.setCell ⟨w''.heap.size + 1,i,none⟩ v).cell? ⟨ga,0,none⟩ = some (.int .i64 (i:Int)):=fun v=>hfarN 0 v;obtain ⟨T,hTd⟩:∃ T,T = Pure.trS l1 a2 (l0.drop (i + 1)) (Pure.cA (l0.take (i + 1))):=⟨_,rfl⟩;have hTl:T.length = l0.length - (i + 1):=by rw [hTd,Pure.trS_len,zd]
     have hTv:=HV.out;rw [← hTd] at hTv;have hT:∀ v:Bool,(if o.f0 = 13 then l1.getD o.f1.toNat false
   else if o.f0 = 11 then true
   else if o.f0 = 12 then false
   else if o.f0 = 10 then !(T.getD 0 false)
   else if o.f0 = 8 then (T.getD 0 false && T.getD (endAt (l0.drop (i + 1)) 0).toNat false)
   else if o.f0 = 9 then (T.getD 0 false || T.getD (endAt (l0.drop (i + 1)) 0).toNat false)
   else decide (a2 / 2 ^ (Pure.cA (l0.take i)) % 2 = 1)) = v → Pure.trS l1 a2 (l0.drop i) (Pure.cA (l0.take i)) = v :: T:=by
      intro v hv;rw [List.drop_eq_getElem_cons hlt,Pure.trS,← ho,← hv,hTd,Pure.cA_take l0 i hlt,← ho]
     have hend:∀ (nd:Nat) (v:Bool),Pure.trS l1 a2 (l0.drop i) (Pure.cA (l0.take i)) = v :: T →
       W0.grownBy (((wr.drewN nd).setCell ⟨w''.heap.size + 1,i,none⟩ (.bool v)).alloc (Obj.cells #[Value.int IntKind.i64 ((i:Int) - 1)] 3)) (some (w''.heap.size + 1)) ∧
       (((wr.drewN nd).setCell ⟨w''.heap.size + 1,i,none⟩ (.bool v)).alloc (Obj.cells #[Value.int IntKind.i64 ((i:Int) - 1)] 3)).heap[wr.heap.size]? = some (.cells #[Value.int IntKind.i64 ((i:Int) - 1)] 3 (0,0)) ∧
       (((wr.drewN nd).setCell ⟨w''.heap.size + 1,i,none⟩ (.bool v)).alloc (Obj.cells #[Value.int IntKind.i64 ((i:Int) - 1)] 3)).heap[w''.heap.size + 1]? = some (.cells (bools (List.replicate i false ++ Pure.trS l1 a2 (l0.drop i) (Pure.cA (l0.take i)))).toArray 4 (0,0)):=by
      intro nd v hv;have hs:((wr.drewN nd).setCell ⟨w''.heap.size + 1,i,none⟩ (.bool v)).heap.size = wr.heap.size:=by simp
      refine ⟨?_,?_,?_⟩
      ·have hb:=HG.out;have hW0:=blk_lt H2.out;have hsz4:=hb.size;refine ⟨hb.os,hb.tape,hb.output,by simp;omega,fun j hj hne=>?_⟩;rw [heap_old _ (by rw [hs];omega),Below.heap_setCell (wr.drewN nd) ⟨w''.heap.size + 1,i,none⟩ _ j (by intro e;exact hne (by rw [e]))];exact hb.block j hj hne
      ·rw [← hs];exact heap_new _ _
      ·rw [heap_old _ (by rw [hs];exact blk_lt hTv),blk_set (zL hTv nd),hv];congr 2;apply Array.ext';simp [bools,List.replicate_succ',List.set_append]
     have hOl:(List.replicate (i + 1) false ++ T).length = l0.length:=by simp [hTl];omega
     have hF0:i + 1 < l0.length → ∀ nd,Calls Tryz.prog 88 #[.pointer (some ⟨w''.heap.size + 1 + 1,0,none⟩),.pointer (some ⟨ga,0,none⟩)] (wr.drewN nd) fun e w'=>e = .returned (.bool (T.getD 0 false))∧w' = wr.drewN nd:=by
      intro hi1 nd;refine (first_calls (w''.heap.size + 1 + 1) ga (w''.heap.size + 1) l0.length (List.replicate (i + 1) false ++ T) i (wr.drewN nd) (zL b3 nd) (by have:=zL HGA.out nd;rw [e1] at this;exact this) (zL hTv nd) hOl hi1 h3).mono ?_;rintro e w' ⟨rfl,rfl⟩;refine ⟨?_,rfl⟩;congr 2;rw [List.getD_eq_getElem?_getD,List.getD_eq_getElem?_getD,List.getElem?_append_right (by simp)];simp
     have hS0:arIs l0[i] 2 → ∀ nd,Calls Tryz.prog 89 #[.pointer (some ⟨w''.heap.size + 1 + 1,0,none⟩),.pointer (some ⟨w''.heap.size,0,none⟩),.pointer (some ⟨ga,0,none⟩)] (wr.drewN nd) fun e w'=>e = .returned (.bool (T.getD (endAt (l0.drop (i + 1)) 0).toNat false))∧∃ nd',w' = wr.drewN nd':=by
      intro ha nd;obtain ⟨s1,s2,s3,s4⟩:=Pure.second_at h2 i hlt ha;have hCe:Kd.C (Kd.int .i64) (wr.drewN nd) Ae l0.length ((List.range l0.length).map (endAt l0)):=by
       have:=Kd.C_drewN (zT (zT (Kd.R_reads' HE.out).2.2 (Below.refl _ _)) (HBo.out wr HG.out)) nd;simpa using this
      refine (second_calls (w''.heap.size + 1 + 1) w''.heap.size ga (w''.heap.size + 1) l0.length Ae ce ((List.range l0.length).map (endAt l0)) (List.replicate (i + 1) false ++ T) i (i + 1 + (endAt (l0.drop (i + 1)) 0).toNat) (wr.drewN nd) (zL b3 nd) (by have:=zL HGA.out nd;rw [e1] at this;exact this) (zL b1 nd) hCe (zL hTv nd) hOl s1 h3 ?_ (by omega)).mono ?_
      ·rw [Base.rd_get _ _ (by simpa using s1)];simp only [List.getElem_map,List.getElem_range];omega
      ·rintro e w' ⟨rfl,nd2,rfl⟩;refine ⟨?_,nd + nd2,World.drewN_drewN _ _ _⟩;congr 2;rw [List.getD_eq_getElem?_getD,List.getD_eq_getElem?_getD,List.getElem?_append_right (by simp)];simp
     have HS0:=zA hS0;have HT:=zA hT;have HEnd:=zA hend;have HO:=zA ho;have HF0:=zA hF0;clear hg hR2 e1 hT hend hTd ho hF0 hS0;by_cases k13:o.f0 = 13
     ·have k13b:(o.f0 == 13) = true:=beq_iff_eq.2 k13;have hfit:=h6 l0[i] (List.getElem_mem hlt);rw [← HO.out] at hfit;have hb13:0 ≤ o.f1∧o.f1 < (l1.length:Int):=by
       unfold Pure.fit at hfit;rw [if_neg (by omega),if_pos k13] at hfit;split at hfit
       ·cases hfit
       ·omega
      obtain ⟨j,hj⟩:∃ j:Nat,o.f1 = (j:Int):=⟨o.f1.toNat,by omega⟩;rw [hj] at hb13 y1;obtain ⟨ad1,e1,m1⟩:=Kd.at_bool (zT HR1.out (zH HB2.out (HBo.out wr HG.out))) (j:Int) (by omega) (by omega);subst e1;rw [Int.toNat_natCast] at m1;obtain ⟨v,hvd⟩:∃ v,v = l1.getD j false:=⟨_,rfl⟩;have hrv:rdOf false l1 (j:Int) = v:=by rw [hvd];simp [rdOf]
      rw [hrv] at m1;have hv:=HT.out v (by rw [if_pos k13,hj,hvd,Int.toNat_natCast]);have hidx3:decide ((j:Int) < (l1.length:Int)) = true:=zQ (by omega);have hp2:(0 ≤ (j:Int)) = True:=qT (by omega);have hq2:((j:Int) < (l1.length:Int)) = True:=qT (by omega);clear hfit hb13 hrv hvd hj;go_wp2;go_region;go_wp2;go_roundg i
      case measure=>omega
      case rel =>
       have hah:Pure.ahd l0[i].f0 = false:=by rw [← HO.out,k13];rfl
       have hct:=Pure.cA_take l0 i hlt;rw [hah] at hct;obtain ⟨u1,u2,u3⟩:=HEnd.out 1 _ hv;exact ⟨_,by rw [hct];rfl,rfl,⟨by omega⟩,⟨u1⟩,⟨u2⟩,⟨u3⟩⟩
     have k13b:(o.f0 == 13) = false:=beq_eq_false_iff_ne.2 k13;by_cases k11:o.f0 = 11
     ·have k11b:(o.f0 == 11) = true:=beq_iff_eq.2 k11;have hv:=HT.out true (by rw [if_neg k13,if_pos k11]);go_wp2;go_roundg i
      case measure=>omega
      case rel =>
       have hah:Pure.ahd l0[i].f0 = false:=by rw [← HO.out,k11];rfl
       have hct:=Pure.cA_take l0 i hlt;rw [hah] at hct;obtain ⟨u1,u2,u3⟩:=HEnd.out 0 true hv;exact ⟨_,by rw [hct];rfl,rfl,⟨by omega⟩,⟨u1⟩,⟨u2⟩,⟨u3⟩⟩
     have k11b:(o.f0 == 11) = false:=beq_eq_false_iff_ne.2 k11;by_cases k12:o.f0 = 12
     ·have k12b:(o.f0 == 12) = true:=beq_iff_eq.2 k12;have hv:=HT.out false (by rw [if_neg k13,if_neg k11,if_pos k12]);go_wp2;go_roundg i
      case measure=>omega
      case rel =>
       have hah:Pure.ahd l0[i].f0 = false:=by rw [← HO.out,k12];rfl
       have hct:=Pure.cA_take l0 i hlt;rw [hah] at hct;refine ⟨_,by rw [hct];rfl,rfl,⟨by omega⟩,⟨below_grown HG.out _⟩,⟨heap_new _ _⟩,⟨?_⟩⟩;rw [heap_old _ (blk_lt hTv),hTv,hv];congr 2;apply Array.ext';simp [bools,List.replicate_succ']
     have k12b:(o.f0 == 12) = false:=beq_eq_false_iff_ne.2 k12;by_cases k10:o.f0 = 10
     ·have k10b:(o.f0 == 10) = true:=beq_iff_eq.2 k10;have hv:=HT.out (!(T.getD 0 false)) (by rw [if_neg k13,if_neg k11,if_neg k12,if_pos k10]);have hi1:i + 1 < l0.length:=Pure.first_at h2 i hlt 0 (by rw [← HO.out];unfold arIs;rw [k10];decide);have HF:=zA (HF0.out hi1);go_wp2;first|(go_region_held3 (fun w'=>w'.cell? ⟨w''.heap.size + 1 + 1,0,none⟩ = some (Value.slice (some { block:=w''.heap.size + 1,off:=0 }) l0.length l0.length)∧w'.cell? ⟨ga,0,none⟩ = some (.int .i64 (i:Int))) (go_keep) (first|(go_at_call 88;refine (HF.out 0).mono ?_;rintro e w' ⟨rfl,rfl⟩)|(go_at_call 88;refine (HF.out _).mono ?_;rintro e w' ⟨rfl,rfl⟩)))|fail
      go_wp2;go_roundg i
      case measure=>omega
      case rel =>
       have hah:Pure.ahd l0[i].f0 = false:=by rw [← HO.out,k10];rfl
       have hct:=Pure.cA_take l0 i hlt;rw [hah] at hct;obtain ⟨u1,u2,u3⟩:=HEnd.out 1 _ hv;exact ⟨_,by rw [hct];rfl,rfl,⟨by omega⟩,⟨u1⟩,⟨u2⟩,⟨u3⟩⟩
     have k10b:(o.f0 == 10) = false:=beq_eq_false_iff_ne.2 k10;by_cases k8:o.f0 = 8
     ·have k8b:(o.f0 == 8) = true:=beq_iff_eq.2 k8;have hv:=HT.out (T.getD 0 false && T.getD (endAt (l0.drop (i + 1)) 0).toNat false) (by rw [if_neg k13,if_neg k11,if_neg k12,if_neg k10,if_pos k8]);have ha2:arIs l0[i] 2:=by rw [← HO.out];unfold arIs;rw [k8];decide
      have hi1:i + 1 < l0.length:=(Pure.second_at h2 i hlt ha2).1;have hah:Pure.ahd l0[i].f0 = false:=by rw [← HO.out,k8];rfl
      have hct:=Pure.cA_take l0 i hlt;rw [hah] at hct;have HF:=zA (HF0.out hi1);have HS:=zA (HS0.out ha2);obtain ⟨p,hp⟩:∃ p,p = T.getD 0 false:=⟨_,rfl⟩;obtain ⟨q,hq'⟩:∃ q,q = T.getD (endAt (l0.drop (i + 1)) 0).toNat false:=⟨_,rfl⟩;rw [← hp,← hq'] at hv;rw [← hp] at HF;rw [← hq'] at HS;clear hp hq';have HCT:=zA hct;clear hct;cases p with
      | true =>
       have hv':Pure.trS l1 a2 (l0.drop i) (Pure.cA (l0.take i)) = q :: T:=by simpa using hv
       clear hv;go_wp2;first|(go_region_held3 (fun w'=>w'.cell? ⟨w''.heap.size + 1 + 1,0,none⟩ = some (Value.slice (some { block:=w''.heap.size + 1,off:=0 }) l0.length l0.length)∧w'.cell? ⟨ga,0,none⟩ = some (.int .i64 (i:Int))) (go_keep) (first|(go_at_call 88;refine (HF.out 0).mono ?_;rintro e w' ⟨rfl,rfl⟩)|(go_at_call 88;refine (HF.out _).mono ?_;rintro e w' ⟨rfl,rfl⟩)|(go_at_call 89;refine (HS.out _).mono ?_;rintro e w' ⟨rfl,nx,rfl⟩)))|fail
       go_wp2;go_roundg i
       case measure=>omega
       case rel=>exact ⟨_,by rw [HCT.out];rfl,rfl,⟨by omega⟩,⟨(HEnd.out _ _ hv').1⟩,⟨(HEnd.out _ _ hv').2.1⟩,⟨(HEnd.out _ _ hv').2.2⟩⟩
      | false =>
       have hv':Pure.trS l1 a2 (l0.drop i) (Pure.cA (l0.take i)) = false :: T:=by simpa using hv
       clear hv;go_wp2;go_still_tail 9,(by kernel_rfl);still_call (HF.out 1);(repeat still_step);refine wpStill_nil ?_;change wpList _ _ _ _ _ wr.drew;go_wp2;go_roundg i
       case measure=>omega
       case rel=>exact ⟨_,by rw [HCT.out];rfl,rfl,⟨by omega⟩,⟨(HEnd.out _ _ hv').1⟩,⟨(HEnd.out _ _ hv').2.1⟩,⟨(HEnd.out _ _ hv').2.2⟩⟩
     have k8b:(o.f0 == 8) = false:=beq_eq_false_iff_ne.2 k8;by_cases k9:o.f0 = 9
     ·have k9b:(o.f0 == 9) = true:=beq_iff_eq.2 k9;have hv:=HT.out (T.getD 0 false || T.getD (endAt (l0.drop (i + 1)) 0).toNat false) (by rw [if_neg k13,if_neg k11,if_neg k12,if_neg k10,if_neg k8,if_pos k9]);have ha2:arIs l0[i] 2:=by rw [← HO.out];unfold arIs;rw [k9];decide
      have hi1:i + 1 < l0.length:=(Pure.second_at h2 i hlt ha2).1;have hah:Pure.ahd l0[i].f0 = false:=by rw [← HO.out,k9];rfl
      have hct:=Pure.cA_take l0 i hlt;rw [hah] at hct;have HF:=zA (HF0.out hi1);have HS:=zA (HS0.out ha2);obtain ⟨p,hp⟩:∃ p,p = T.getD 0 false:=⟨_,rfl⟩;obtain ⟨q,hq'⟩:∃ q,q = T.getD (endAt (l0.drop (i + 1)) 0).toNat false:=⟨_,rfl⟩;rw [← hp,← hq'] at hv;rw [← hp] at HF;rw [← hq'] at HS;clear hp hq';have HCT:=zA hct;clear hct;cases p with
      | true =>
       have hv':Pure.trS l1 a2 (l0.drop i) (Pure.cA (l0.take i)) = true :: T:=by simpa using hv
       clear hv;go_wp2;go_still_tail 9,(by kernel_rfl);still_call (HF.out 1);(repeat still_step);refine wpStill_nil ?_;change wpList _ _ _ _ _ wr.drew;go_wp2;go_roundg i
       case measure=>omega
       case rel=>exact ⟨_,by rw [HCT.out];rfl,rfl,⟨by omega⟩,⟨(HEnd.out _ _ hv').1⟩,⟨(HEnd.out _ _ hv').2.1⟩,⟨(HEnd.out _ _ hv').2.2⟩⟩
      | false =>
       have hv':Pure.trS l1 a2 (l0.drop i) (Pure.cA (l0.take i)) = q :: T:=by simpa using hv
       clear hv;go_wp2;first|(go_region_held3 (fun w'=>w'.cell? ⟨w''.heap.size + 1 + 1,0,none⟩ = some (Value.slice (some { block:=w''.heap.size + 1,off:=0 }) l0.length l0.length)∧w'.cell? ⟨ga,0,none⟩ = some (.int .i64 (i:Int))) (go_keep) (first|(go_at_call 88;refine (HF.out 0).mono ?_;rintro e w' ⟨rfl,rfl⟩)|(go_at_call 88;refine (HF.out _).mono ?_;rintro e w' ⟨rfl,rfl⟩)|(go_at_call 89;refine (HS.out _).mono ?_;rintro e w' ⟨rfl,nx,rfl⟩)))|fail
       go_wp2;go_roundg i
       case measure=>omega
       case rel=>exact ⟨_,by rw [HCT.out];rfl,rfl,⟨by omega⟩,⟨(HEnd.out _ _ hv').1⟩,⟨(HEnd.out _ _ hv').2.1⟩,⟨(HEnd.out _ _ hv').2.2⟩⟩
     have k9b:(o.f0 == 9) = false:=beq_eq_false_iff_ne.2 k9;have hfit:=h6 l0[i] (List.getElem_mem hlt);rw [← HO.out] at hfit;obtain ⟨rr,hrr⟩:=one_places l0 h2 i hlt;have hah:Pure.ahd l0[i].f0 = true:=by
      rw [List.drop_eq_getElem_cons hlt,scan_cons] at hrr;rw [← HO.out] at hrr ⊢;unfold Pure.fit at hfit;unfold partsS at hrr;have:¬ (o.f0 < 1 ∨ 18 < o.f0):=by
       intro hc;rw [if_pos hc] at hrr;simp at hrr
      have:¬ o.f0 < 8:=by
       intro hc;rw [if_pos hc] at hfit;cases hfit
      unfold Pure.ahd;exact zQ (by omega)
     have hct:=Pure.cA_take l0 i hlt;rw [hah,if_pos rfl] at hct;have hv:=HT.out (decide (a2 / 2 ^ Pure.cA (List.take i l0) % 2 = 1)) (by rw [if_neg k13,if_neg k11,if_neg k12,if_neg k10,if_neg k8,if_neg k9]);have hcle:Pure.cA (l0.take (i + 1)) ≤ 6:=by
      have e:=Pure.cA_append (l0.take (i + 1)) (l0.drop (i + 1));rw [List.take_append_drop] at e;omega
     rw [hct] at hcle ⊢;obtain ⟨c,hcc⟩:∃ c,c = Pure.cA (List.take i l0):=⟨_,rfl⟩;rw [← hcc] at hcle hv ⊢;have e2:IntKind.i64.wrap (((c + 1:Nat):Int) - 1) = (c:Int):=by rw [IntKind.wrap_i64];omega
     have HCC:=zA hcc;have h0:0 ≤ a2 / 2 ^ c:=Int.ediv_nonneg (by omega) (Int.le_of_lt (Int.pow_pos (by omega)));have h0b:a2 / 2 ^ c ≤ a2:=Int.ediv_le_self _ (by omega);have ha64:a2 < 64:=by
      have h64:(2:Int) ^ Pure.cA l0 ≤ 2 ^ 6:=by exact_mod_cast Nat.pow_le_pow_right (n:=2) (by omega) h5
      have:=q1.2;omega
     have hbit:(bits BinOp.and IntKind.i64 (a2 / 2 ^ c) 1 == 1) = decide (a2 / 2 ^ c % 2 = 1):=by
      have:=bits_mask .i64 62 (by decide) (fun n a b=>by rw [IntKind.wrap_i64];omega) 1 (by decide) (a2 / 2 ^ c) h0 (by omega);rw [show ((2:Int) ^ 1 - 1) = 1 from rfl,show ((2:Int) ^ 1) = 2 from rfl] at this;rw [this,Bool.eq_iff_iff];simp
     clear hfit hrr hah hct hcc h0b ha64;have hsh:a2 / 2 ^ (min c 64) = a2 / 2 ^ c:=by rw [Nat.min_eq_left (by omega)]
     go_wp2;go_region;go_wp2;go_roundg i
     case measure=>omega
     case rel =>
      have hv2:=hv;rw [HCC.out] at hv2;obtain ⟨u1,u2,u3⟩:=HEnd.out 1 _ hv2;rw [← HCC.out] at u1 u2 u3;exact ⟨_,by rw [← HCC.out],rfl,⟨by omega⟩,⟨u1⟩,⟨u2⟩,⟨by rw [← HCC.out];exact u3⟩⟩
  ·have q0:a2 < 0:=by assumption
   have h:=HH.out;rw [if_neg (by omega)] at h;obtain ⟨rfl,rfl⟩:=Prod.mk.inj h;go_ret2;exact ⟨_,rfl,Kd.R_nil _ _ _ _ _,HB.out⟩
 ·rw [if_neg hc] at h hA;obtain ⟨rfl,rfl⟩:=Prod.mk.inj h;have hcb:(Pure.checkS l0 l1.length != 0) = true:=by rw [bne_iff_ne];exact hc
  have HA:=zA hA;clear hA h;go_enter Tryz.func57,Tryz.ntmps57;go_wp2_with (go_at_call 39;refine (zA2.calls K _ _ l0 _ _ _ _ HR.out HC.out HLd.out HA.out).mono ?_;rintro e w' ⟨v0,rfl,ho,hb⟩;obtain ⟨Ap,cp,rfl⟩:=Kd.R_slice ho;have HB:=zA hb;clear ho hb);go_ret2;exact ⟨_,rfl,Kd.R_nil _ _ _ _ _,HB.out⟩
end
end Go.Proofs.YtgdijfhdpgdanaaGreatDoor.B
