import Derived.Test.YtgdijfhdpgdanaaGreatDoorKProductBehindsG10
import Derived.Test.YtgdijfhdpgdanaaGreatDoorKProductBehindsG11
namespace Go.Proofs.YtgdijfhdpgdanaaGreatDoor.B
open Go.Proofs.YtgdijfhdpgdanaaGreatDoor.Al
open List renaming length_drop → zd
open Go.Proofs.YtgdijfhdpgdanaaGreatDoorW.PrintWords renaming below_alloc → zD, below_set → zF, blk_cell → zI, blk_frozen → zJ, Kd.C_below → zT, below_step → zH, gate_callee → zU, gate_dst → zV, blk_alloc → zK, blk_drewN → zL, blk_drew → zM, blk_below → zN, blk_put → zO
open Option renaming bind_eq_some_iff → zb
open Go.Proofs.YtgdijfhdpgdanaaGreatDoor.Sq Go.RowKit Go.Proofs.YtgdijfhdpgdanaaGreatDoorW.PrintWords Go.Proofs.YtgdijfhdpgdanaaGreatDoorW.PrintLast Go.Proofs.YtgdijfhdpgdanaaGreatDoorW.PrintMore
attribute [local go_sem] max2_int min2_int max_two min_two max_three min_three max_four min_four
set_option linter.unusedVariables false
set_option linter.unusedSimpArgs false
section
open Go.Proofs.YtgdijfhdpgdanaaGreatDoor.Hand
structure RdOK (w:World) (gr ge:Nat) (A:Option Addr) (c:Nat) (l:List S96) (ends:List Int):Prop where
 ne:gr ≠ ge
 rd:w.heap[gr]? = some (.cells #[.slice A l.length c,.slice (some ⟨ge,0,none⟩) l.length l.length] 129 (0,0))
 en:w.heap[ge]? = some (.cells (nums .i64 ends).toArray 3 (0,0))
 len:ends.length = l.length
 cap:l.length ≤ c
 max:l.length ≤ 60
 ops:∀ W,w.grownBy W (some ge) → Kd.C k96 W A l.length l
 laid:∀ W,w.grownBy W (some ge) → LaidG W
theorem RdOK.step {w w':World} {gr ge:Nat} {A:Option Addr} {c:Nat} {l:List S96} {ends ends':List Int} (h:RdOK w gr ge A c l ends) (hg:w.grownBy w' (some ge)) (he:w'.heap[ge]? = some (.cells (nums .i64 ends').toArray 3 (0,0))) (hl:ends'.length = l.length):RdOK w' gr ge A c l ends' :=
 ⟨h.ne,(hg.block gr (blk_lt h.rd) (by intro e;exact h.ne (by injection e))).trans h.rd,he,hl,h.cap,h.max,fun W hW=>h.ops W (grownBy_trans hg hW),fun W hW=>h.laid W (grownBy_trans hg hW)⟩
def SkipPost (l:List S96) (at_:Nat) (ends:List Int) (w:World) (ge:Nat) (e:Ending) (w':World):Prop :=
 ∃ ends',ends'.length = l.length∧w.grownBy w' (some ge)∧w'.heap[ge]? = some (.cells (nums .i64 ends').toArray 3 (0,0)) ∧
  match scan (l.drop at_) 1 with
  | .error c=>e = .panicked [{ v:=.iface 33 (.int .i64 c),recovered:=false }]
  | .ok r=>e = .returned (.int .i64 ((l.length:Int) - r.length))∧∀ i,i < l.length → ends'[i]? = if at_ ≤ i∧(i:Int) < (l.length:Int) - r.length then some (endAt l i) else ends[i]?
set_option maxHeartbeats 1000000 in
theorem skip_calls (gr ge:Nat) (A:Option Addr) (c:Nat) (l:List S96) (fuel:Nat):∀ (at_:Nat) (ends:List Int) (w:World),l.length - at_ < fuel → RdOK w gr ge A c l ends →
  Calls Tryz.prog 91 #[.pointer (some ⟨gr,0,none⟩),.int .i64 (at_:Int)] w (SkipPost l at_ ends w ge):=by
 induction fuel with
 | zero=>intro at_ ends w hf;omega
 | succ fuel ih =>
  intro at_ ends w hf hR;have c0:w.cell? ⟨gr,0,none⟩ = some (.slice A l.length c):=zI hR.rd 0;have c1:w.cell? ⟨gr,1,none⟩ = some (.slice (some ⟨ge,0,none⟩) l.length l.length):=zI hR.rd 1;have hmax:=hR.max;have H:=zA hR;clear hR;by_cases hlt:at_ < l.length
  ·have hC:=H.out.ops w (World.grownBy.refl w _);obtain ⟨ad,e1,h0,h1⟩:=zA6 hC at_ (by omega) (by omega);subst e1;obtain ⟨o,ho⟩:∃ o,o = l[at_]:=⟨_,rfl⟩;have hg:zAI l at_ = o:=by rw [ho];exact Base.getD_get _ _ _ hlt
   rw [hg,Int.toNat_natCast] at h0 h1;have hp:zBP.f o.f0 = some ((partsS o.f0).1,(partsS o.f0).2):=by unfold zBP.f partsS;split <;> rfl
   have hsc:scan (l.drop at_) 1 = if (partsS o.f0).2 = 0 then scan (l.drop (at_ + 1)) (partsS o.f0).1.toNat else .error (partsS o.f0).2:=by
    rw [List.drop_eq_getElem_cons hlt,scan_cons,← ho,Nat.zero_add]
   have hn:=partsS_bd (a:=o.f0);obtain ⟨n,hn1⟩:∃ n,n = (partsS o.f0).1:=⟨_,rfl⟩;obtain ⟨er,hn2⟩:∃ er,er = (partsS o.f0).2:=⟨_,rfl⟩;rw [← hn1,← hn2] at hp hsc;rw [← hn1,← hn2] at hn;have HP:=zA hp;have HS:=zA hsc;clear hp hsc hC hg ho hn1 hn2;have hidx:decide ((at_:Int) < (l.length:Int)) = true:=zQ (by omega);by_cases her:er = 0
   ·have hn:=hn her;subst her;go_enter Tryz.func91,Tryz.ntmps91;go_wp2_with (go_at_call 121;refine (zBP.calls o.f0 n 0 _ ?hL HP.out).mono ?_;(case hL=>exact H.out.laid _ (grownBy_drewN (World.grownBy.refl w _) 0));rintro e w' ⟨rfl,⟨nd,rfl⟩⟩);go_loopg [7,35] n.toNat (fun kq v7 v35 wr=>∃ (p j:Nat) (ends1:List Int),v7 = .int .i64 (p:Int)∧v35 = .int .i64 (j:Int)∧Aside0 (j + kq = n.toNat)∧Aside0 (scan (l.drop (at_ + 1)) j = .ok (l.drop p))∧Aside0 (p ≤ l.length∧at_ + 1 ≤ p)∧Aside0 (w.grownBy wr (some ge))∧Aside0 (ends1.length = l.length)∧Aside0 (wr.heap[ge]? = some (.cells (nums .i64 ends1).toArray 3 (0,0)))∧Aside0 (∀ i,i < l.length → ends1[i]? = if at_ + 1 ≤ i∧i < p then some (endAt l i) else ends[i]?))
    case atStart=>exact ⟨at_ + 1,0,ends,by first|rfl|(simp;done),rfl,⟨by omega⟩,⟨scan_zero _⟩,⟨by omega,by omega⟩,⟨grownBy_drewN (World.grownBy.refl w _) _⟩,⟨H.out.len⟩,⟨H.out.en⟩,⟨fun i hi=>by rw [if_neg (by omega)]⟩⟩
    case round =>
     obtain ⟨p,j,ends1,rfl,rfl,HJ,HSC,HP2,HG,HL1,HE,HV⟩:=hrel;obtain ⟨hp0,hp1⟩:=HP2.out;by_cases hj:(j:Int) < n
     ·have hjb:decide ((j:Int) < n) = true:=zQ hj;have HC:=zA (ih p ends1 wr (by omega) (H.out.step HG.out HE.out HL1.out));have hadd:=scan_add (l.drop (at_ + 1)) j 1;rw [HSC.out] at hadd;have hadd2:=scan_add (l.drop (at_ + 1)) (j + 1) (n.toNat - (j + 1));rw [show j + 1 + (n.toNat - (j + 1)) = n.toNat by omega] at hadd2;have HA:=zA hadd;have HA2:=zA hadd2;clear hadd hadd2;cases gk with
      | zero=>exact absurd HJ.out (by omega)
      | succ k1 =>
      match hs1:scan (l.drop p) 1 with
      | .error cc =>
       have HS1:=zA hs1;clear hs1;go_wp2_with (go_at_call 91;refine HC.out.mono ?_;rintro e w2 ⟨ends2,hl2,hg2,he2,hm2⟩;rw [HS1.out] at hm2;obtain rfl:=hm2;have HL2:=zA hl2;have HG2:=zA hg2;have HE2:=zA he2;clear hl2 hg2 he2);refine ⟨rfl,ends2,HL2.out,grownBy_trans HG.out HG2.out,HE2.out,?_⟩;have:scan (l.drop at_) 1 = .error cc:=by
        rw [HS.out,if_pos trivial,HA2.out,HA.out];simp only [HS1.out]
       rw [this]
      | .ok r1 =>
       obtain ⟨k,hk0,hk1,hk2⟩:=scan_suffix _ _ _ hs1;have hr:(l.length:Int) - r1.length = ((p + k:Nat):Int):=by rw [hk1];simp at hk0 ⊢;omega
       have hkl:p + k ≤ l.length:=by simp at hk0;omega
       have hrd:r1 = l.drop (p + k):=by rw [hk1,List.drop_drop]
       have HK:=zA hr;have HK2:=zA hrd;have HS1:=zA hs1;clear hs1 hr hrd hk0 hk1;go_wp2_with (go_at_call 91;refine HC.out.mono ?_;rintro e w2 ⟨ends2,hl2,hg2,he2,hm2⟩;rw [HS1.out] at hm2;obtain ⟨rfl,hv2⟩:=hm2;rw [HK.out];have HL2:=zA hl2;have HG2:=zA hg2;have HE2:=zA he2;have HV2:=zA hv2;clear hl2 hg2 he2 hv2);go_roundg k1
       case measure=>omega
       case rel =>
        refine ⟨p + k,j + 1,ends2,rfl,by simp,⟨qo HJ⟩,⟨?_⟩,⟨hkl,by omega⟩,⟨grownBy_trans HG.out HG2.out⟩,⟨HL2.out⟩,⟨HE2.out⟩,⟨fun i hi=>?_⟩⟩
        ·rw [HA.out];simp only [HS1.out,HK2.out]
        ·rw [HV2.out i hi,HK.out];by_cases q:p ≤ i∧(i:Int) < ((p + k:Nat):Int)
         ·rw [if_pos q,if_pos (by omega)]
         ·rw [if_neg q,HV.out i hi];by_cases q2:at_ + 1 ≤ i∧i < p
          ·rw [if_pos q2,if_pos (by omega)]
          ·rw [if_neg q2,if_neg (by omega)]
     ·have hjb:decide ((j:Int) < n) = false:=zR hj;have hR2:=H.out.step HG.out HE.out HL1.out;have hlt1:at_ < ends1.length:=by rw [HL1.out];exact hlt
      have d0:wr.cell? ⟨gr,1,none⟩ = some (.slice (some ⟨ge,0,none⟩) l.length l.length):=zI hR2.rd 1;have d1:wr.cell? ⟨ge,at_,none⟩ = some (.int .i64 ends1[at_]):=by rw [zI HE.out];simp [nums,hlt1]
      have d2:wr.frozen? ⟨ge,at_,none⟩ = false:=zJ HE.out at_;have hidx2:decide ((at_:Int) < (l.length:Int)) = true:=zQ (by omega);clear hR2;go_wp2;go_ret;have hsc:scan (l.drop at_) 1 = .ok (l.drop p):=by
       rw [HS.out,if_pos trivial,show n.toNat = j by have:=HJ.out;omega];exact HSC.out
      have hpe:(l.length:Int) - (l.drop p).length = (p:Int):=by rw [zd];omega
      refine ⟨ends1.set at_ p,by rw [List.length_set];exact HL1.out,grownBy_set HG.out _ _,?_,?_⟩
      ·rw [blk_set HE.out];congr 2;apply Array.ext';simp [nums,List.map_set]
      ·rw [hsc];refine ⟨by rw [hpe];rfl,fun i hi=>?_⟩;rw [hpe,List.getElem?_set];by_cases q:at_ = i
       ·subst q;rw [if_pos rfl,if_pos hlt1,if_pos (by omega)];unfold endAt;rw [hsc];exact congrArg some hpe.symm
       ·rw [if_neg q,HV.out i hi];by_cases q2:at_ + 1 ≤ i∧i < p
        ·rw [if_pos q2,if_pos (by omega)]
        ·rw [if_neg q2,if_neg (by omega)]
   ·have herb:(er == 0) = false:=by rw [beq_eq_false_iff_ne];exact her
    have herb2:(er != 0) = true:=by rw [bne_iff_ne];exact her
    go_enter Tryz.func91,Tryz.ntmps91;go_wp2_with (go_at_call 121;refine (zBP.calls o.f0 n er _ ?hL HP.out).mono ?_;(case hL=>exact H.out.laid _ (grownBy_drewN (World.grownBy.refl w _) 0));rintro e w' ⟨rfl,⟨nd,rfl⟩⟩);refine ⟨rfl,ends,H.out.len,grownBy_drewN (World.grownBy.refl w _) _,H.out.en,?_⟩;rw [show scan (l.drop at_) 1 = .error er by rw [HS.out,if_neg her]]
  ·have hge:decide ((at_:Int) ≥ (l.length:Int)) = true:=zQ (by omega);have hge2:decide (l.length ≤ at_) = true:=zQ (by omega);go_enter Tryz.func91,Tryz.ntmps91;go_wp2;refine ⟨rfl,ends,H.out.len,World.grownBy.refl w _,H.out.en,?_⟩;rw [show scan (l.drop at_) 1 = .error 4 by rw [List.drop_of_length_le (by omega)];rfl]
theorem assert_errno (c:Int) (W:World):(Instr.typeAssert (.iface 33 (.int .i64 c)) 20 33 false).run Tryz.prog W = .ok (.int .i64 c) W:=by kernel_rfl
theorem catch_panicking (b1 b2:Nat) (hb:b1 ≠ b2) (y:Int) (c:Int) (older:List PanicEntry) (w:World) (hc:w.cell? ⟨b1,0,none⟩ = some (.slice none 0 0)) (hz:w.frozen? ⟨b1,0,none⟩ = false) (hc2:w.cell? ⟨b2,0,none⟩ = some (.int .i64 0)) (hz2:w.frozen? ⟨b2,0,none⟩ = false) :
  CallsD Tryz.prog 90 #[.pointer (some ⟨b1,0,none⟩),.pointer (some ⟨b2,0,none⟩)] (.panicking ({ v:=.iface 33 (.int .i64 c),recovered:=false } :: older)) w fun e u' w' =>
   e = .returned (.tuple #[])∧u' = .panicking ({ v:=.iface 33 (.int .i64 c),recovered:=true } :: older)∧Same w' ((w.setCell ⟨b1,0,none⟩ (.slice none 0 0)).setCell ⟨b2,0,none⟩ (.int .i64 c)):=by
 have hc21:(w.setCell ⟨b1,0,none⟩ (.slice none 0 0)).cell? ⟨b2,0,none⟩ = some (.int .i64 0):=(World.cell?_setCell_other w ⟨b1,0,none⟩ ⟨b2,0,none⟩ _ (by intro e;injection e with e;exact hb e)).trans hc2;have hc12:(w.setCell ⟨b2,0,none⟩ (.int .i64 c)).cell? ⟨b1,0,none⟩ = some (.slice none 0 0):=(World.cell?_setCell_other w ⟨b2,0,none⟩ ⟨b1,0,none⟩ _ (by intro e;injection e with e;exact hb e.symm)).trans hc;refine callsD_of_wpS Tryz.func90 rfl fun c₀ cs hu=>?_;apply wpS_seq;apply wpS_region;simp [wpOpsS,go_sem,recoverD,hu,Tryz.ntmps90,Exit.thenS];apply wpS_seq;apply wpS_region;simp [wpOpsS,go_sem,recoverD,hu,Tryz.ntmps90,Exit.thenS];refine wpS_cond (t:=true) (by simp [Act.eval,Array.replicate]) ?_;simp only [if_true];refine wpS_of_wp ?_;simp [show Array.replicate 6 undef = #[undef,undef,undef,undef,undef,undef] from rfl];have hta:=assert_errno c;go_region;all_goals
  cases c₀;simp_all [bodyPostS,results,Tryz.results90];exact Same.drew _
theorem catch_idle (p q:Value) (w:World) :
  CallsD Tryz.prog 90 #[p,q] .returning w fun e u' w'=>e = .returned (.tuple #[])∧u' = .returning∧w' = w:=by
 refine callsD_of_wpS Tryz.func90 rfl fun c₀ cs hu=>?_;apply wpS_seq;apply wpS_region;simp [wpOpsS,go_sem,recoverD,hu,Tryz.ntmps90,Exit.thenS];apply wpS_seq;apply wpS_region;simp [wpOpsS,go_sem,Exit.thenS];refine wpS_cond (t:=false) (by simp [Act.eval,Array.replicate]) ?_;simp only [Bool.false_eq_true,if_false];refine wpS_of_wp (wp_skip ?_);cases c₀;simp_all [bodyPostS,results,Tryz.results90]
def zBD.f (l0:List S96):Option (List Int × Int):=some (endsS l0)
set_option maxHeartbeats 1000000 in
theorem zBD.calls (A0:Option Addr) (c0:Nat) (l0:List S96) (r1:List Int) (r2:Int) (w:World) (hr0:Kd.C k96 w A0 l0.length l0) (hc0:l0.length ≤ c0) (hL:LaidG w) (h:zBD.f l0 = some (r1,r2)) :
  Calls Tryz.prog 58 #[.slice A0 l0.length c0] w fun e w'=>∃ v0_:Value,e = .returned (.tuple #[v0_,.int .i64 r2])∧Kd.R (Kd.int .i64) 3 w' w.heap.size (fun _=>True) v0_ r1∧Below w.heap.size w w':=by
 have hmf:∀ (fn:Fn) (first cap:Array Value) (w:World),(Instr.makeFunc fn first cap).run Tryz.prog w = .ok (.func fn first cap) w:=fun _ _ _ _=>rfl;have HR:=zA hr0;have HC:=zA hc0;have HLd:=zA hL;clear hr0 hc0 hL;have h:=Option.some.inj h;by_cases hlen:l0.length > 60
 ·have hb:decide ((l0.length:Int) > 60) = true:=zQ (by omega);unfold endsS at h;rw [if_pos hlen] at h;cases h;go_enter_defers Tryz.func58,Tryz.ntmps58;go_wp2;simp [bodyPostD,Leaves,settle,results,Tryz.results58,go_sem];exact ⟨Kd.R_nil _ _ _ _ _,zD (zD (Below.refl _ _) _) _⟩
 ·have hb:decide ((l0.length:Int) > 60) = false:=zR (by omega);have hmk:=print_make (P:=Tryz.prog) 39 3 .i64 8 Tryz.underlying39 info3 (by omega) l0.length (by omega);rw [made_nums] at hmk;unfold endsS at h;rw [if_neg hlen] at h;have HH:=zA h;clear h;go_enter_defers Tryz.func58,Tryz.ntmps58;go_wp2_with fail;clear hmk;have hsz:∀ (W:World) (o:Obj),(W.alloc o).heap.size = W.heap.size + 1:=size_alloc;obtain ⟨W,hW⟩:∃ W,W = ((((w.alloc (Obj.cells #[Value.slice none 0 0] 39)).alloc (Obj.cells #[Value.int IntKind.i64 0] 33)).alloc (Obj.cells (nums .i64 (List.replicate l0.length 0)).toArray 3)).alloc (Obj.cells #[Value.slice A0 l0.length c0,Value.slice (some { block:=w.heap.size + 1 + 1,off:=0 }) l0.length l0.length] 129)):=⟨_,rfl⟩;have hBW:Below w.heap.size w W:=by rw [hW];exact zD (zD (zD (zD (Below.refl _ _) _) _) _) _
  have hs4:W.heap.size = w.heap.size + 4:=by rw [hW];simp [hsz]
  have a1:W.heap[w.heap.size]? = some (.cells #[Value.slice none 0 0] 39 (0,0)):=by
   rw [hW,heap_old _ (by simp;omega),heap_old _ (by simp;omega),heap_old _ (by simp)];exact heap_new _ _
  have a2:W.heap[w.heap.size + 1]? = some (.cells #[Value.int IntKind.i64 0] 33 (0,0)):=by
   rw [hW,heap_old _ (by simp),heap_old _ (by simp),← hsz w (Obj.cells #[Value.slice none 0 0] 39)];exact heap_new _ _
  have a3:W.heap[w.heap.size + 1 + 1]? = some (.cells (nums .i64 (List.replicate l0.length 0)).toArray 3 (0,0)):=by
   rw [hW,heap_old _ (by simp),← hsz w (Obj.cells #[Value.slice none 0 0] 39),← hsz _ (Obj.cells #[Value.int IntKind.i64 0] 33)];exact heap_new _ _
  have a4:W.heap[w.heap.size + 1 + 1 + 1]? = some (.cells #[Value.slice A0 l0.length c0,Value.slice (some { block:=w.heap.size + 1 + 1,off:=0 }) l0.length l0.length] 129 (0,0)):=by
   rw [hW,← hsz w (Obj.cells #[Value.slice none 0 0] 39),← hsz _ (Obj.cells #[Value.int IntKind.i64 0] 33),← hsz _ (Obj.cells (nums .i64 (List.replicate l0.length 0)).toArray 3)];exact heap_new _ _
  rw [← hW];have below_of:∀ W2,W.grownBy W2 (some (w.heap.size + 1 + 1)) → Below w.heap.size w W2:=fun W2 hg=>hBW.grown hg (by omega) (fun k hk=>by injection hk with hk;omega);have HRd:RdOK W (w.heap.size + 1 + 1 + 1) (w.heap.size + 1 + 1) A0 c0 l0 (List.replicate l0.length 0) :=
   ⟨by omega,a4,a3,by simp,HC.out,by omega,fun W2 hg=>zT HR.out (below_of W2 hg),fun W2 hg=>HLd.out.below (below_of W2 hg)⟩
  have HS:=skip_calls (w.heap.size + 1 + 1 + 1) (w.heap.size + 1 + 1) A0 c0 l0 (l0.length + 1) 0 (List.replicate l0.length 0) W (by omega) HRd;have HBo:=zA below_of;have HA1:=zA a1;have HA2:=zA a2;have HA4:=zA a4;clear below_of HRd hW hBW a1 a2 a3 a4 hsz;refine HS.mono ?_;clear HS;rintro e w' ⟨ends',hl',hg',he',hm'⟩;rw [List.drop_zero] at hm';have HG:=zA hg';have HE:=zA he';have HL':=zA hl';have b1:w'.heap[w.heap.size]? = some (.cells #[Value.slice none 0 0] 39 (0,0)):=(hg'.block _ (blk_lt HA1.out) (by intro e;injection e with e;omega)).trans HA1.out;have b2:w'.heap[w.heap.size + 1]? = some (.cells #[Value.int IntKind.i64 0] 33 (0,0)):=(hg'.block _ (blk_lt HA2.out) (by intro e;injection e with e;omega)).trans HA2.out;have b4:w'.heap[w.heap.size + 1 + 1 + 1]? = some (.cells #[Value.slice A0 l0.length c0,Value.slice (some { block:=w.heap.size + 1 + 1,off:=0 }) l0.length l0.length] 129 (0,0)):=(hg'.block _ (blk_lt HA4.out) (by intro e;injection e with e;omega)).trans HA4.out;have k1:w'.cell? ⟨w.heap.size,0,none⟩ = some (.slice none 0 0):=zI b1 0;have k2:w'.cell? ⟨w.heap.size + 1,0,none⟩ = some (.int .i64 0):=zI b2 0;have k4:w'.cell? ⟨w.heap.size + 1 + 1 + 1,1,none⟩ = some (Value.slice (some { block:=w.heap.size + 1 + 1,off:=0 }) l0.length l0.length):=zI b4 1;have z1:w'.frozen? ⟨w.heap.size,0,none⟩ = false:=zJ b1 0;have z2:w'.frozen? ⟨w.heap.size + 1,0,none⟩ = false:=zJ b2 0;have HB':=zA (HBo.out w' hg');have hsz':w.heap.size + 4 ≤ w'.heap.size:=by rw [← hs4];exact hg'.size
  clear hl' hg' he' b4 HA1 HA2 HA4 HBo;have B1:=zA b1;have B2:=zA b2;clear b1 b2;have panics:∀ cc:Int,(r1,r2) = ([],cc) → ∀ (tmps:Array Value),tmps[2]?.getD undef = .pointer (some ⟨w.heap.size,0,none⟩) → tmps[3]?.getD undef = .pointer (some ⟨w.heap.size + 1,0,none⟩) →
    bodyPostD Tryz.prog Tryz.f58 (fun e w'=>∃ v0_:Value,e = .returned (.tuple #[v0_,.int .i64 r2])∧Kd.R (Kd.int .i64) 3 w' w.heap.size (fun _=>True) v0_ r1∧Below w.heap.size w w') (Exit.panic [{ v:=Value.iface 33 (Value.int IntKind.i64 cc),recovered:=false }])
     { tmps:=tmps,defers:=[{ target:=Target.fn (Fn.func 90) #[Value.pointer (some { block:=w.heap.size,off:=0 }),Value.pointer (some { block:=w.heap.size + 1,off:=0 })],args:=#[] }] } w':=by
   intro cc hr tmps t2 t3;simp only [Prod.mk.injEq] at hr;obtain ⟨rfl,rfl⟩:=hr;refine leaves_cons (f:=90) (args:=#[.pointer (some ⟨w.heap.size,0,none⟩),.pointer (some ⟨w.heap.size + 1,0,none⟩)]) (by simp) (by simp [go_sem]) ?_;refine (catch_panicking w.heap.size (w.heap.size + 1) (by omega) 0 _ [] w' k1 z1 k2 z2).mono ?_;rintro e u' w'' ⟨rfl,rfl,hsame⟩;have j1:w''.cell? ⟨w.heap.size,0,none⟩ = some (.slice none 0 0):=by rw [hsame.cell];simp [go_sem,k1]
   have j2:w''.cell? ⟨w.heap.size + 1,0,none⟩ = some (.int .i64 r2):=by rw [hsame.cell];simp [go_sem,k2]
   simp [Leaves,settle,results,Tryz.results58,go_sem,j1,j2,t2,t3];exact ⟨Kd.R_nil _ _ _ _ _,Same.below (zF (zF HB'.out (Nat.le_refl _)) (by omega)) hsame⟩
  cases hsc:scan l0 1 with
  | error cc =>
   rw [hsc] at hm';obtain rfl:=hm';have hr:=HH.out;rw [hsc] at hr;exact panics cc hr.symm _ rfl rfl
  | ok r =>
   rw [hsc] at hm';obtain ⟨rfl,hv'⟩:=hm';have hr:=HH.out;rw [hsc] at hr;obtain ⟨k,hk0,hk1,hk2⟩:=scan_suffix _ _ _ hsc;by_cases hnil:r = []
   ·subst hnil;simp only [if_true,Prod.mk.injEq] at hr;obtain ⟨rfl,rfl⟩:=hr;have hr1:(List.range l0.length).map (endAt l0) = ends':=by
     apply List.ext_getElem?;intro i;by_cases hi:i < l0.length
     ·rw [hv' i hi,if_pos ⟨by omega,by simp;omega⟩];simp [hi]
     ·rw [List.getElem?_eq_none (by simp;omega),List.getElem?_eq_none (by rw [HL'.out];omega)]
    have HV:=zA hr1;clear hv' hr1 hsc hk0 hk1 hk2 panics;have hz:(l0.length:Int) - (([]:List S96).length:Int) = (l0.length:Int):=by simp
    rw [hz];clear hz;go_wp2;refine leaves_cons (f:=90) (args:=#[.pointer (some ⟨w.heap.size,0,none⟩),.pointer (some ⟨w.heap.size + 1,0,none⟩)]) (by simp) (by simp [go_sem]) ?_;refine (catch_idle _ _ _).mono ?_;rintro e u' w'' ⟨rfl,rfl,rfl⟩;simp [Leaves,settle,results,Tryz.results58,go_sem,k1,k2];exact ⟨by rw [HV.out,← HL'.out];exact Kd.R_lower (R_setb (R_setb (R_of_block HE.out (Nat.le_refl _) (by have:=HL'.out;omega)) (show w.heap.size < _ by omega) _) (show w.heap.size + 1 < _ by omega) _) (by omega),zF (zF HB'.out (Nat.le_refl _)) (by omega)⟩
   ·have hne:((l0.length:Int) - (r.length:Int) != (l0.length:Int)) = true:=by
     rw [bne_iff_ne];intro e;apply hnil;exact List.eq_nil_of_length_eq_zero (by omega)
    simp only [if_neg hnil] at hr;clear hv' hk0 hk1 hk2;go_wp2;exact panics 3 hr.symm _ rfl rfl
end
mutual
def zAo.j0:Nat → Int → Bool → Option (Bool × Bool × Bool)
 | 0,_,_=>none
 | k + 1,x5,x6=>if x6 = true then (some (false,false,true)) else (if x5 = 6 then (zAo.j1 k x5 (x5 == 6)) else (zAo.j1 k x5 (x5 == 7)))
def zAo.j1:Nat → Int → Bool → Option (Bool × Bool × Bool)
 | 0,_,_=>none
 | k + 1,x5,x12=>if x12 = true then (some (true,false,true)) else (if x5 = 8 then (some (true,true,true)) else (if x5 = 9 then (some (true,true,true)) else (if x5 = 10 then (some (true,true,true)) else (if x5 = 11 then (some (true,true,true)) else (if x5 = 12 then (some (true,true,true)) else (some (false,false,false)))))))
end
def zAo.f (k:Nat) (a0:Int):Option (Bool × Bool × Bool):=if a0 = 1 then (zAo.j0 k a0 (a0 == 1)) else (if a0 = 2 then (zAo.j0 k a0 (a0 == 2)) else (if a0 = 3 then (zAo.j0 k a0 (a0 == 3)) else (if a0 = 4 then (zAo.j0 k a0 (a0 == 4)) else (zAo.j0 k a0 (a0 == 5)))))
theorem zAo.mono_l:∀ k,(∀ y0 y1,LeO (zAo.j0 k y0 y1) (zAo.j0 (k + 1) y0 y1))∧(∀ y0 y1,LeO (zAo.j1 k y0 y1) (zAo.j1 (k + 1) y0 y1))
 | 0=>⟨fun _ _ r h=>by simp [zAo.j0] at h,fun _ _ r h=>by simp [zAo.j1] at h⟩
 | k + 1=>by
  obtain ⟨ih0,ih1⟩:=zAo.mono_l k
  refine ⟨?_,?_⟩
  ·intro y0 y1
   unfold zAo.j0
   exact qL
  ·intro y0 y1
   unfold zAo.j1
   exact qL
theorem zAo.mono:∀ a0 k,LeO (zAo.f k a0) (zAo.f (k + 1) a0):=by
 intro a0 k;obtain ⟨ih0,ih1⟩:=zAo.mono_l k;unfold zAo.f;exact qL
set_option maxHeartbeats 8000000 in
set_option maxRecDepth 100000 in
theorem zAo.calls (k:Nat) (a0:Int) (r1:Bool) (r2:Bool) (r3:Bool) (w:World) (h:zAo.f k a0 = some (r1,r2,r3)) :
  Calls Tryz.prog 109 #[.int .i64 a0] w fun e w'=>e = .returned (.tuple #[.bool r1,.bool r2,.bool r3])∧Drawn0 w w':=by
 have H:(if a0 = 1 then (zAo.j0 k a0 (a0 == 1)) else (if a0 = 2 then (zAo.j0 k a0 (a0 == 2)) else (if a0 = 3 then (zAo.j0 k a0 (a0 == 3)) else (if a0 = 4 then (zAo.j0 k a0 (a0 == 4)) else (zAo.j0 k a0 (a0 == 5)))))) = some (r1,r2,r3):=h;clear h;have HC2:=zA H;clear H;go_enter Tryz.func109,Tryz.ntmps109;go_upto_if 6 with (fail);go_cut [6] (fun v6 wc=>∃ (kq:Nat) (x6_1:Bool),v6 = .bool x6_1∧Aside0 (zAo.j0 kq a0 x6_1 = some (r1,r2,r3))∧Aside0 (kq ≤ k)∧Drawn0 w wc)
 case first =>
  have H:=HC2.out;clear HC2;rcases qE H with ⟨c3b0,c3b1,H⟩|⟨c3,c3b0,c3b1,H⟩
  ·(first|rw [c3b0]|(simp only [i64_w,i32_w];rw [c3b0])|skip);have H':=zA H;clear H;go_wp2;go_meet
   case rel=>exact ⟨_,((a0 == 1)),qr,H',⟨qm⟩,qt⟩
  ·(first|rw [c3b0]|(simp only [i64_w,i32_w];rw [c3b0])|skip);rcases qE H with ⟨c4b0,c4b1,H⟩|⟨c4,c4b0,c4b1,H⟩
   ·have H':=zA H;clear H;go_wp2;go_meet
    case rel=>exact ⟨_,((a0 == 2)),qr,H',⟨qm⟩,qt⟩
   ·rcases qE H with ⟨c5b0,c5b1,H⟩|⟨c5,c5b0,c5b1,H⟩
    ·have H':=zA H;clear H;go_wp2;go_meet
     case rel=>exact ⟨_,((a0 == 3)),qr,H',⟨qm⟩,qt⟩
    ·rcases qE H with ⟨c6b0,c6b1,H⟩|⟨c6,c6b0,c6b1,H⟩
     ·have H':=zA H;clear H;go_wp2;go_meet
      case rel=>exact ⟨_,((a0 == 4)),qr,H',⟨qm⟩,qt⟩
     ·have H':=zA H;clear H;go_wp2;go_meet
      case rel=>exact ⟨_,((a0 == 5)),qr,H',⟨qm⟩,qt⟩
 case rest =>
  clear HC2;obtain ⟨kq,x6_1,rfl,HA,HJ1,⟨mc1,rfl⟩⟩:=hcut;cases kq with
  | zero=>exact absurd HA.out (by simp [zAo.j0])
  | succ kj1 =>
   have H:=HA.out;clear HA;simp only [zAo.j0] at H;by_cases c7:x6_1 = true
   ·subst c7;rw [if_pos rfl] at H
    simp only [Option.some.injEq,Prod.mk.injEq] at H;obtain ⟨rfl,rfl,rfl⟩:=H;go_wp2;go_ret3;exact ⟨qr,qt⟩
   ·replace c7:=Bool.eq_false_iff.mpr c7;subst c7;rw [if_neg (show ¬ (false = true) by decide)] at H
    have HC8:=zA H;clear H;go_upto_if 12 with (fail);go_cut [12] (fun v12 wc=>∃ (kq:Nat) (x12_7:Bool),v12 = .bool x12_7∧Aside0 (zAo.j1 kq a0 x12_7 = some (r1,r2,r3))∧Aside0 (kq ≤ kj1)∧Drawn0 w wc)
    case first =>
     have H:=HC8.out;clear HC8;rcases qE H with ⟨c9b0,c9b1,H⟩|⟨c9,c9b0,c9b1,H⟩
     ·(first|rw [c9b0]|(simp only [i64_w,i32_w];rw [c9b0])|skip);have H':=zA H;clear H;go_wp2;go_meet
      case rel=>exact ⟨_,((a0 == 6)),qr,H',⟨qo HJ1⟩,qt⟩
     ·(first|rw [c9b0]|(simp only [i64_w,i32_w];rw [c9b0])|skip);have H':=zA H;clear H;go_wp2;go_meet
      case rel=>exact ⟨_,((a0 == 7)),qr,H',⟨qo HJ1⟩,qt⟩
    case rest =>
     clear HC8;obtain ⟨kq,x12_7,rfl,HA,HJ7,⟨mc7,rfl⟩⟩:=hcut;cases kq with
     | zero=>exact absurd HA.out (by simp [zAo.j1])
     | succ kj7 =>
      have H:=HA.out;clear HA;simp only [zAo.j1] at H;by_cases c10:x12_7 = true
      ·subst c10;rw [if_pos rfl] at H
       simp only [Option.some.injEq,Prod.mk.injEq] at H;obtain ⟨rfl,rfl,rfl⟩:=H;go_wp2;go_ret3;exact ⟨qr,qt⟩
      ·replace c10:=Bool.eq_false_iff.mpr c10;subst c10;rw [if_neg (show ¬ (false = true) by decide)] at H
       rcases qE H with ⟨c11b0,c11b1,H⟩|⟨c11,c11b0,c11b1,H⟩
       ·simp only [Option.some.injEq,Prod.mk.injEq] at H;obtain ⟨rfl,rfl,rfl⟩:=H;go_wp2;go_ret3;exact ⟨qr,qt⟩
       ·rcases qE H with ⟨c12b0,c12b1,H⟩|⟨c12,c12b0,c12b1,H⟩
        ·simp only [Option.some.injEq,Prod.mk.injEq] at H;obtain ⟨rfl,rfl,rfl⟩:=H;go_wp2;go_ret3;exact ⟨qr,qt⟩
        ·rcases qE H with ⟨c13b0,c13b1,H⟩|⟨c13,c13b0,c13b1,H⟩
         ·simp only [Option.some.injEq,Prod.mk.injEq] at H;obtain ⟨rfl,rfl,rfl⟩:=H;go_wp2;go_ret3;exact ⟨qr,qt⟩
         ·rcases qE H with ⟨c14b0,c14b1,H⟩|⟨c14,c14b0,c14b1,H⟩
          ·simp only [Option.some.injEq,Prod.mk.injEq] at H;obtain ⟨rfl,rfl,rfl⟩:=H;go_wp2;go_ret3;exact ⟨qr,qt⟩
          ·rcases qE H with ⟨c15b0,c15b1,H⟩|⟨c15,c15b0,c15b1,H⟩
           ·simp only [Option.some.injEq,Prod.mk.injEq] at H;obtain ⟨rfl,rfl,rfl⟩:=H;go_wp2;go_ret3;exact ⟨qr,qt⟩
           ·simp only [Option.some.injEq,Prod.mk.injEq] at H;obtain ⟨rfl,rfl,rfl⟩:=H;go_wp2;go_ret3;exact ⟨qr,qt⟩
def zBQ.f (k:Nat) (a0_0:Int) (a0_1:Int) (a1:Int):Option (Int):=(zAo.f k a0_0).bind fun bt102=>(if bt102.2.2 = true then (if a0_0 = 1 then (if a0_1 < (-1000) then (some 2) else (if a0_1 > 1000 then (some 2) else (some 0))) else (if a0_0 = 2 then (if a0_1 < 0 then (some 2) else (if a0_1 > (wrap64 (a1 - 1)) then (some 2) else (some 0))) else (if a0_1 < 0 then (some 2) else (if a0_1 > 0 then (some 2) else (some 0))))) else (some 13))
theorem zBQ.mono:∀ a0 a1 a2 k,LeO (zBQ.f k a0 a1 a2) (zBQ.f (k + 1) a0 a1 a2):=by
 intro a0 a1 a2 k;unfold zBQ.f;exact qM @zAo.mono
set_option maxHeartbeats 8000000 in
set_option maxRecDepth 100000 in
theorem zBQ.calls (k:Nat) (a0_0:Int) (a0_1:Int) (a1:Int) (r:Int) (w:World) (h:zBQ.f k a0_0 a0_1 a1 = some r) :
  Calls Tryz.prog 108 #[.agg #[.int .i64 a0_0,.int .i64 a0_1],.int .i64 a1] w fun e w'=>e = .returned (.int .i64 r)∧Below w.heap.size w w':=by
 have hu96:=Tryz.underlying96;have HB:=zA (Below.refl w.heap.size w);have H:((zAo.f k a0_0).bind fun bt102=>(if bt102.2.2 = true then (if a0_0 = 1 then (if a0_1 < (-1000) then (some 2) else (if a0_1 > 1000 then (some 2) else (some 0))) else (if a0_0 = 2 then (if a0_1 < 0 then (some 2) else (if a0_1 > (wrap64 (a1 - 1)) then (some 2) else (some 0))) else (if a0_1 < 0 then (some 2) else (if a0_1 > 0 then (some 2) else (some 0))))) else (some 13))) = some r:=h;clear h;replace H:=zb.mp H;obtain ⟨⟨t102,t103,t104⟩,A30,H⟩:=H;(try dsimp only at H);have A3:=zA A30;clear A30;by_cases c4:t104 = true
 ·subst c4;rw [if_pos rfl] at H
  rcases qE H with ⟨c5b0,c5b1,H⟩|⟨c5,c5b0,c5b1,H⟩
  ·rcases qj H with ⟨c6b0,H⟩|⟨c6b0,H⟩
   ·obtain rfl:=Option.some.inj H;go_enter Tryz.func108,Tryz.ntmps108;go_wp2_with (first|((with_reducible refine zV (N:=2) rfl ?_);refine bQ 2 (cs:=#[.int .i64 a0_0,.int .i64 a0_1]) (t:=96) ?_;intro gb101 hg w7 BK101 hb;have GW101:=zA (qg hg);replace HB:=zA (zH qb hb);clear hb hg;obtain ⟨hcz8_0,hcz8_1⟩:=q2 BK101;have hfz8_0:=zJ BK101.out)|((with_reducible refine zU (f:=109) rfl ?_);refine gL (some 13) Tryz.func109 #[.int .i64 a0_0] ?_;(with_reducible refine (zAo.calls k a0_0 t102 t103 true _ A3.out).mono ?_);rintro e w' ⟨rfl,⟨nd,rfl⟩⟩;refine ⟨_,rfl,?_⟩));go_ret;exact ⟨qe,qb⟩
   ·by_cases c9:a0_1 > 1000
    ·rw [if_pos c9] at H;have c9b0:decide (1000 < a0_1) = true:=zQ c9;clear c9;obtain rfl:=Option.some.inj H;go_enter Tryz.func108,Tryz.ntmps108;go_wp2_with (first|((with_reducible refine zV (N:=2) rfl ?_);refine bQ 2 (cs:=#[.int .i64 a0_0,.int .i64 a0_1]) (t:=96) ?_;intro gb101 hg w10 BK101 hb;have GW101:=zA (qg hg);replace HB:=zA (zH qb hb);clear hb hg;obtain ⟨hcz11_0,hcz11_1⟩:=q2 BK101;have hfz11_0:=zJ BK101.out)|((with_reducible refine zU (f:=109) rfl ?_);refine gL (some 13) Tryz.func109 #[.int .i64 a0_0] ?_;(with_reducible refine (zAo.calls k a0_0 t102 t103 true _ A3.out).mono ?_);rintro e w' ⟨rfl,⟨nd,rfl⟩⟩;refine ⟨_,rfl,?_⟩));go_ret;exact ⟨qe,qb⟩
    ·rw [if_neg c9] at H;have c9b0:decide (1000 < a0_1) = false:=zR c9;clear c9;obtain rfl:=Option.some.inj H;go_enter Tryz.func108,Tryz.ntmps108;go_wp2_with (first|((with_reducible refine zV (N:=2) rfl ?_);refine bQ 2 (cs:=#[.int .i64 a0_0,.int .i64 a0_1]) (t:=96) ?_;intro gb101 hg w12 BK101 hb;have GW101:=zA (qg hg);replace HB:=zA (zH qb hb);clear hb hg;obtain ⟨hcz13_0,hcz13_1⟩:=q2 BK101;have hfz13_0:=zJ BK101.out)|((with_reducible refine zU (f:=109) rfl ?_);refine gL (some 13) Tryz.func109 #[.int .i64 a0_0] ?_;(with_reducible refine (zAo.calls k a0_0 t102 t103 true _ A3.out).mono ?_);rintro e w' ⟨rfl,⟨nd,rfl⟩⟩;refine ⟨_,rfl,?_⟩));go_ret;exact ⟨qe,qb⟩
  ·rcases qE H with ⟨c14b0,c14b1,H⟩|⟨c14,c14b0,c14b1,H⟩
   ·rcases qj H with ⟨c15b0,H⟩|⟨c15b0,H⟩
    ·obtain rfl:=Option.some.inj H;go_enter Tryz.func108,Tryz.ntmps108;go_wp2_with (first|((with_reducible refine zV (N:=2) rfl ?_);refine bQ 2 (cs:=#[.int .i64 a0_0,.int .i64 a0_1]) (t:=96) ?_;intro gb101 hg w16 BK101 hb;have GW101:=zA (qg hg);replace HB:=zA (zH qb hb);clear hb hg;obtain ⟨hcz17_0,hcz17_1⟩:=q2 BK101;have hfz17_0:=zJ BK101.out)|((with_reducible refine zU (f:=109) rfl ?_);refine gL (some 13) Tryz.func109 #[.int .i64 a0_0] ?_;(with_reducible refine (zAo.calls k a0_0 t102 t103 true _ A3.out).mono ?_);rintro e w' ⟨rfl,⟨nd,rfl⟩⟩;refine ⟨_,rfl,?_⟩));go_ret;exact ⟨qe,qb⟩
    ·by_cases c18:a0_1 > (wrap64 (a1 - 1))
     ·rw [if_pos c18] at H;have c18b0:decide ((wrap64 (a1 - 1)) < a0_1) = true:=zQ c18;clear c18;obtain rfl:=Option.some.inj H;go_enter Tryz.func108,Tryz.ntmps108;go_wp2_with (first|((with_reducible refine zV (N:=2) rfl ?_);refine bQ 2 (cs:=#[.int .i64 a0_0,.int .i64 a0_1]) (t:=96) ?_;intro gb101 hg w19 BK101 hb;have GW101:=zA (qg hg);replace HB:=zA (zH qb hb);clear hb hg;obtain ⟨hcz20_0,hcz20_1⟩:=q2 BK101;have hfz20_0:=zJ BK101.out)|((with_reducible refine zU (f:=109) rfl ?_);refine gL (some 13) Tryz.func109 #[.int .i64 a0_0] ?_;(with_reducible refine (zAo.calls k a0_0 t102 t103 true _ A3.out).mono ?_);rintro e w' ⟨rfl,⟨nd,rfl⟩⟩;refine ⟨_,rfl,?_⟩));go_ret;exact ⟨qe,qb⟩
     ·rw [if_neg c18] at H;have c18b0:decide ((wrap64 (a1 - 1)) < a0_1) = false:=zR c18;clear c18;obtain rfl:=Option.some.inj H;go_enter Tryz.func108,Tryz.ntmps108;go_wp2_with (first|((with_reducible refine zV (N:=2) rfl ?_);refine bQ 2 (cs:=#[.int .i64 a0_0,.int .i64 a0_1]) (t:=96) ?_;intro gb101 hg w21 BK101 hb;have GW101:=zA (qg hg);replace HB:=zA (zH qb hb);clear hb hg;obtain ⟨hcz22_0,hcz22_1⟩:=q2 BK101;have hfz22_0:=zJ BK101.out)|((with_reducible refine zU (f:=109) rfl ?_);refine gL (some 13) Tryz.func109 #[.int .i64 a0_0] ?_;(with_reducible refine (zAo.calls k a0_0 t102 t103 true _ A3.out).mono ?_);rintro e w' ⟨rfl,⟨nd,rfl⟩⟩;refine ⟨_,rfl,?_⟩));go_ret;exact ⟨qe,qb⟩
   ·rcases qj H with ⟨c23b0,H⟩|⟨c23b0,H⟩
    ·obtain rfl:=Option.some.inj H;go_enter Tryz.func108,Tryz.ntmps108;go_wp2_with (first|((with_reducible refine zV (N:=2) rfl ?_);refine bQ 2 (cs:=#[.int .i64 a0_0,.int .i64 a0_1]) (t:=96) ?_;intro gb101 hg w24 BK101 hb;have GW101:=zA (qg hg);replace HB:=zA (zH qb hb);clear hb hg;obtain ⟨hcz25_0,hcz25_1⟩:=q2 BK101;have hfz25_0:=zJ BK101.out)|((with_reducible refine zU (f:=109) rfl ?_);refine gL (some 13) Tryz.func109 #[.int .i64 a0_0] ?_;(with_reducible refine (zAo.calls k a0_0 t102 t103 true _ A3.out).mono ?_);rintro e w' ⟨rfl,⟨nd,rfl⟩⟩;refine ⟨_,rfl,?_⟩));go_ret;exact ⟨qe,qb⟩
    ·by_cases c26:a0_1 > 0
     ·rw [if_pos c26] at H;have c26b0:decide (0 < a0_1) = true:=zQ c26;clear c26;obtain rfl:=Option.some.inj H;go_enter Tryz.func108,Tryz.ntmps108;go_wp2_with (first|((with_reducible refine zV (N:=2) rfl ?_);refine bQ 2 (cs:=#[.int .i64 a0_0,.int .i64 a0_1]) (t:=96) ?_;intro gb101 hg w27 BK101 hb;have GW101:=zA (qg hg);replace HB:=zA (zH qb hb);clear hb hg;obtain ⟨hcz28_0,hcz28_1⟩:=q2 BK101;have hfz28_0:=zJ BK101.out)|((with_reducible refine zU (f:=109) rfl ?_);refine gL (some 13) Tryz.func109 #[.int .i64 a0_0] ?_;(with_reducible refine (zAo.calls k a0_0 t102 t103 true _ A3.out).mono ?_);rintro e w' ⟨rfl,⟨nd,rfl⟩⟩;refine ⟨_,rfl,?_⟩));go_ret;exact ⟨qe,qb⟩
     ·rw [if_neg c26] at H;have c26b0:decide (0 < a0_1) = false:=zR c26;clear c26;obtain rfl:=Option.some.inj H;go_enter Tryz.func108,Tryz.ntmps108;go_wp2_with (first|((with_reducible refine zV (N:=2) rfl ?_);refine bQ 2 (cs:=#[.int .i64 a0_0,.int .i64 a0_1]) (t:=96) ?_;intro gb101 hg w29 BK101 hb;have GW101:=zA (qg hg);replace HB:=zA (zH qb hb);clear hb hg;obtain ⟨hcz30_0,hcz30_1⟩:=q2 BK101;have hfz30_0:=zJ BK101.out)|((with_reducible refine zU (f:=109) rfl ?_);refine gL (some 13) Tryz.func109 #[.int .i64 a0_0] ?_;(with_reducible refine (zAo.calls k a0_0 t102 t103 true _ A3.out).mono ?_);rintro e w' ⟨rfl,⟨nd,rfl⟩⟩;refine ⟨_,rfl,?_⟩));go_ret;exact ⟨qe,qb⟩
 ·replace c4:=Bool.eq_false_iff.mpr c4;subst c4;rw [if_neg (show ¬ (false = true) by decide)] at H
  obtain rfl:=Option.some.inj H;go_enter Tryz.func108,Tryz.ntmps108;go_wp2_with (first|((with_reducible refine zV (N:=2) rfl ?_);refine bQ 2 (cs:=#[.int .i64 a0_0,.int .i64 a0_1]) (t:=96) ?_;intro gb101 hg w31 BK101 hb;have GW101:=zA (qg hg);replace HB:=zA (zH qb hb);clear hb hg;obtain ⟨hcz32_0,hcz32_1⟩:=q2 BK101;have hfz32_0:=zJ BK101.out)|((with_reducible refine zU (f:=109) rfl ?_);refine gL (some 13) Tryz.func109 #[.int .i64 a0_0] ?_;(with_reducible refine (zAo.calls k a0_0 t102 t103 false _ A3.out).mono ?_);rintro e w' ⟨rfl,⟨nd,rfl⟩⟩;refine ⟨_,rfl,?_⟩));go_ret;exact ⟨qe,qb⟩
mutual
def zAj.j0:Nat → List (S96) → Int → Bool → Option (Bool × Int)
 | 0,_,_,_=>none
 | k + 1,x0,x1,x28=>if x28 = true then (some (false,2)) else ((zBD.f x0).bind fun bt105=>(if bt105.2 = 0 then (zAj.l0 k x0 x1 bt105.1 x0 (x0.length:Int) 0) else (some (false,bt105.2))))
def zAj.l0:Nat → List (S96) → Int → List Int → List (S96) → Int → Int → Option (Bool × Int)
 | 0,_,_,_,_,_,_=>none
 | k + 1,x0,x1,x6,x37,x38,x39=>if x39 < x38 then (if 0 ≤ x39 then (if x39 < (x37.length:Int) then ((zBQ.f k ((zAI x37 x39).f0) ((zAI x37 x39).f1) x1).bind fun t111=>(if t111 = 0 then (zAj.l0 k x0 x1 x6 x37 x38 (wrap64 (x39 + 1))) else (some (false,t111)))) else (none)) else (none)) else (zAj.l1 k x0 x6 x0 (x0.length:Int) 0)
def zAj.l1:Nat → List (S96) → List Int → List (S96) → Int → Int → Option (Bool × Int)
 | 0,_,_,_,_,_=>none
 | k + 1,x0,x6,x50,x51,x52=>if x52 < x51 then (if 0 ≤ x52 then (if x52 < (x50.length:Int) then ((zAo.f k ((zAI x50 x52).f0)).bind fun bt118=>(zAj.l2 k x0 x6 x52 bt118.2.1 (wrap64 (x52 + 1)) x50 x51 x52)) else (none)) else (none)) else (if 0 < (x0.length:Int) then ((zAo.f k ((zAI x0 0).f0)).bind fun bt113=>(some (bt113.1,0))) else (none))
def zAj.l2:Nat → List (S96) → List Int → Int → Bool → Int → List (S96) → Int → Int → Option (Bool × Int)
 | 0,_,_,_,_,_,_,_,_=>none
 | k + 1,x0,x6,x11,x14,x16,x50,x51,x52=>if 0 ≤ x11 then (if x11 < (x6.length:Int) then (if x16 < (rd x6 x11) then (if 0 ≤ x16 then (if x16 < (x0.length:Int) then ((zAo.f k ((zAI x0 x16).f0)).bind fun bt123=>(if (bt123.1 != x14) = true then (some (false,5)) else (if x16 < (x6.length:Int) then (zAj.l2 k x0 x6 x11 x14 (rd x6 x16) x50 x51 x52) else (none)))) else (none)) else (none)) else (zAj.l1 k x0 x6 x50 x51 (wrap64 (x52 + 1)))) else (none)) else (none)
end
def zAj.f (k:Nat) (l0:List (S96)) (a1:Int):Option (Bool × Int):=if a1 < 0 then (zAj.j0 k l0 a1 true) else (zAj.j0 k l0 a1 (decide (a1 > 6)))
theorem zAj.mono_l:∀ k,(∀ y0 y1 y2,LeO (zAj.j0 k y0 y1 y2) (zAj.j0 (k + 1) y0 y1 y2))∧(∀ y0 y1 y2 y3 y4 y5,LeO (zAj.l0 k y0 y1 y2 y3 y4 y5) (zAj.l0 (k + 1) y0 y1 y2 y3 y4 y5))∧(∀ y0 y1 y2 y3 y4,LeO (zAj.l1 k y0 y1 y2 y3 y4) (zAj.l1 (k + 1) y0 y1 y2 y3 y4))∧(∀ y0 y1 y2 y3 y4 y5 y6 y7,LeO (zAj.l2 k y0 y1 y2 y3 y4 y5 y6 y7) (zAj.l2 (k + 1) y0 y1 y2 y3 y4 y5 y6 y7))
 | 0=>⟨fun _ _ _ r h=>by simp [zAj.j0] at h,fun _ _ _ _ _ _ r h=>by simp [zAj.l0] at h,fun _ _ _ _ _ r h=>by simp [zAj.l1] at h,fun _ _ _ _ _ _ _ _ r h=>by simp [zAj.l2] at h⟩
 | k + 1=>by
  obtain ⟨ih0,ih1,ih2,ih3⟩:=zAj.mono_l k
  refine ⟨?_,?_,?_,?_⟩
  ·intro y0 y1 y2
   unfold zAj.j0
   exact qM (And.intro @zBQ.mono @zAo.mono)
  ·intro y0 y1 y2 y3 y4 y5
   unfold zAj.l0
   exact qM (And.intro @zBQ.mono @zAo.mono)
  ·intro y0 y1 y2 y3 y4
   unfold zAj.l1
   exact qM (And.intro @zBQ.mono @zAo.mono)
  ·intro y0 y1 y2 y3 y4 y5 y6 y7
   unfold zAj.l2
   exact qM (And.intro @zBQ.mono @zAo.mono)
theorem zAj.mono:∀ a0 a1 k,LeO (zAj.f k a0 a1) (zAj.f (k + 1) a0 a1):=by
 intro a0 a1 k;obtain ⟨ih0,ih1,ih2,ih3⟩:=zAj.mono_l k;unfold zAj.f;exact qM (And.intro @zBQ.mono @zAo.mono)
set_option maxHeartbeats 8000000 in
set_option maxRecDepth 100000 in
theorem zAj.calls (k:Nat) (A0:Option Addr) (c0:Nat) (l0:List (S96)) (a1:Int) (r1:Bool) (r2:Int) (w:World) (hr0:Kd.C k96 w A0 l0.length l0) (hc0:l0.length ≤ c0) (hL:LaidG w) (h:zAj.f k l0 a1 = some (r1,r2)) :
  Calls Tryz.prog 80 #[.slice A0 l0.length c0,.int .i64 a1] w fun e w'=>e = .returned (.tuple #[.bool r1,.int .i64 r2])∧Below w.heap.size w w':=by
 have HLd:=zA hL;clear hL;have hu96:=Tryz.underlying96;have HR0:=zA hr0;have HC0:=zA hc0;clear hr0 hc0;have HB:=zA (Below.refl w.heap.size w);have H:(if a1 < 0 then (zAj.j0 k l0 a1 true) else (zAj.j0 k l0 a1 (decide (a1 > 6)))) = some (r1,r2):=h;clear h;have HC3:=zA H;clear H;go_enter Tryz.func80,Tryz.ntmps80;go_upto_region 1 with (fail);go_cut [28] (fun v28 wc=>∃ (kq:Nat) (x28_2:Bool),v28 = .bool x28_2∧Aside0 (zAj.j0 kq l0 a1 x28_2 = some (r1,r2))∧Aside0 (kq ≤ k)∧Aside0 (Below w.heap.size w wc))
 case first =>
  have H:=HC3.out;clear HC3;rcases qj H with ⟨c4b0,H⟩|⟨c4b0,H⟩
  ·(first|rw [c4b0]|(simp only [i64_w,i32_w];rw [c4b0])|skip);have H':=zA H;clear H;go_wp2;go_meet
   case rel=>exact ⟨_,(true),qr,H',⟨qm⟩,⟨qb⟩⟩
  ·(first|rw [c4b0]|(simp only [i64_w,i32_w];rw [c4b0])|skip);have H':=zA H;clear H;go_wp2;go_meet
   case rel=>exact ⟨_,(decide (a1 > 6)),qr,H',⟨qm⟩,⟨qb⟩⟩
 case rest =>
  clear HC3;obtain ⟨kq,x28_2,rfl,HA,HJ2,HB⟩:=hcut;cases kq with
  | zero=>exact absurd HA.out (by simp [zAj.j0])
  | succ kj2 =>
   have H:=HA.out;clear HA;simp only [zAj.j0] at H;by_cases c5:x28_2 = true
   ·subst c5;rw [if_pos rfl] at H
    obtain ⟨rfl,rfl⟩:=qP H;go_wp2;go_ret2;exact ⟨qe,qb⟩
   ·replace c5:=Bool.eq_false_iff.mpr c5;subst c5;rw [if_neg (show ¬ (false = true) by decide)] at H
    replace H:=zb.mp H;obtain ⟨⟨t105,t106⟩,A60,H⟩:=H;(try dsimp only at H);have A6:=zA A60;clear A60;rcases qE H with ⟨c7b0,c7b1,H⟩|⟨c7,c7b0,c7b1,H⟩
    ·have H':=zA H;clear H;go_wp2_with (first|((with_reducible refine zU (f:=58) rfl ?_);refine gL (some 31) Tryz.func58 #[.slice A0 l0.length c0] ?_;(with_reducible refine (zBD.calls _ _ l0 t105 t106 _ (qc HR0) HC0.out qD A6.out).mono ?_);rintro e w8 ⟨v107,rfl,ho0,hb⟩;refine ⟨_,rfl,?_⟩;have HO108:=zA (Kd.R_lower ho0 qs);replace HB:=zA (zH qb hb);clear ho0 hb));go_loopg [39] kj2 (fun kq v39 w'=>∃ (x39_2:Int),v39 = .int .i64 x39_2∧Aside0 (zAj.l0 kq l0 a1 t105 l0 (l0.length:Int) x39_2 = some (r1,r2))∧Aside0 (kq ≤ kj2)∧Aside0 (Kd.R (Kd.int .i64) 3 w' w.heap.size (fun _=>True) v107 t105)∧Aside0 (Below w.heap.size w w'))
     case atStart=>exact ⟨(0),qr,H',⟨Nat.le_refl _⟩,⟨qR HO108⟩,⟨qb⟩⟩
     case round =>
      clear H';obtain ⟨x39_2,rfl,HA,HK2,HO_6,HB⟩:=hrel;cases gk with
      | zero=>exact absurd HA.out (by simp [zAj.l0])
      | succ k2 =>
       have H:=HA.out;clear HA;simp only [zAj.l0] at H;rcases qj H with ⟨c9b0,H⟩|⟨c9b0,H⟩
       ·rcases qj H with ⟨c10b0,H⟩|⟨c10,H⟩
        ·rcases qj H with ⟨c11b0,H⟩|⟨c11,H⟩
         ·replace H:=zb.mp H;obtain ⟨t111,A120,H⟩:=H;(try dsimp only at H);have A12:=zA A120;clear A120;rcases qE H with ⟨c13b0,c13b1,H⟩|⟨c13,c13b0,c13b1,H⟩
          ·have H':=zA H;clear H;have p109:0 ≤ (x39_2:Int):=qd;have q109:x39_2 < (l0.length:Int):=qd;obtain ⟨ad109,e109,hx109_0,hx109_1⟩:=zA6 (qW HR0 HB) x39_2 p109 q109;cases e109;replace p109:=qT p109;replace q109:=qT q109;go_wp2_with (first|((with_reducible refine zV (N:=9) rfl ?_);refine bq 9 (cs:=#[.int .i64 0,.int .i64 0]) (t:=96) ?_;intro gb110 hg w14 hbox hb;replace HO_6:=zA (Kd.R_below (qR HO_6) hb);have BK110:=zA (hbox);have GW110:=zA (qg hg);replace HB:=zA (zH qb hb);clear hb hbox hg;obtain ⟨hcz15_0,hcz15_1⟩:=q2 BK110;have hfz15_0:=zJ BK110.out)|((with_reducible refine zU (f:=108) rfl ?_);refine gL (some 45) Tryz.func108 #[.agg #[.int .i64 ((zAI l0 x39_2).f0),.int .i64 ((zAI l0 x39_2).f1)],.int .i64 a1] ?_;(with_reducible refine (zBQ.calls k2 ((zAI l0 x39_2).f0) ((zAI l0 x39_2).f1) a1 t111 _ A12.out).mono ?_);rintro e w16 ⟨rfl,hb⟩;refine ⟨_,rfl,?_⟩;replace HO_6:=zA (Kd.R_below (by (with_reducible repeat (first|apply Kd.R_alloc|apply Kd.R_drewN|apply Kd.R_drew));exact (Kd.R_mono (Kd.R_far (p:=⟨gb110,1,none⟩) (Kd.R_far (p:=⟨gb110,0,none⟩) (Kd.R_types HO_6.out BK110.out (by decide)) (fun _ hk=>hk.2) (.int .i64 ((zAI l0 x39_2).f0))) (fun _ hk=>hk.2) (.int .i64 ((zAI l0 x39_2).f1))) (fun _ h_=>h_.1))) hb);replace BK110:=zA (zN (g:=gb110) (o:=.cells #[.int .i64 ((zAI l0 x39_2).f0),.int .i64 ((zAI l0 x39_2).f1)] 96 (0,0)) (by (with_reducible repeat (first|refine zL ?_ _|refine zM ?_|refine zK ?_ _));refine zO (cs:=#[.int .i64 ((zAI l0 x39_2).f0),.int .i64 0]) ?_ 1 _ rfl;(with_reducible repeat (first|refine zL ?_ _|refine zM ?_|refine zK ?_ _));refine zO (cs:=#[.int .i64 0,.int .i64 0]) ?_ 0 _ rfl;(with_reducible repeat (first|refine zL ?_ _|refine zM ?_|refine zK ?_ _));exact BK110.out) hb);replace HB:=zA (zH qb hb);clear hb));go_roundg k2
           case measure=>have:=HJ2.out;have:=HK2.out;omega
           case rel=>exact ⟨(wrap64 (x39_2 + 1)),qr,H',⟨qp HJ2 HK2⟩,⟨qR HO_6⟩,⟨qb⟩⟩
          ·obtain ⟨rfl,rfl⟩:=qP H;have p109:0 ≤ (x39_2:Int):=qd;have q109:x39_2 < (l0.length:Int):=qd;obtain ⟨ad109,e109,hx109_0,hx109_1⟩:=zA6 (qW HR0 HB) x39_2 p109 q109;cases e109;replace p109:=qT p109;replace q109:=qT q109;go_wp2_with (first|((with_reducible refine zV (N:=9) rfl ?_);refine bq 9 (cs:=#[.int .i64 0,.int .i64 0]) (t:=96) ?_;intro gb110 hg w17 hbox hb;replace HO_6:=zA (Kd.R_below (qR HO_6) hb);have BK110:=zA (hbox);have GW110:=zA (qg hg);replace HB:=zA (zH qb hb);clear hb hbox hg;obtain ⟨hcz18_0,hcz18_1⟩:=q2 BK110;have hfz18_0:=zJ BK110.out)|((with_reducible refine zU (f:=108) rfl ?_);refine gL (some 45) Tryz.func108 #[.agg #[.int .i64 ((zAI l0 x39_2).f0),.int .i64 ((zAI l0 x39_2).f1)],.int .i64 a1] ?_;(with_reducible refine (zBQ.calls k2 ((zAI l0 x39_2).f0) ((zAI l0 x39_2).f1) a1 t111 _ A12.out).mono ?_);rintro e w19 ⟨rfl,hb⟩;refine ⟨_,rfl,?_⟩;replace HO_6:=zA (Kd.R_below (by (with_reducible repeat (first|apply Kd.R_alloc|apply Kd.R_drewN|apply Kd.R_drew));exact (Kd.R_mono (Kd.R_far (p:=⟨gb110,1,none⟩) (Kd.R_far (p:=⟨gb110,0,none⟩) (Kd.R_types HO_6.out BK110.out (by decide)) (fun _ hk=>hk.2) (.int .i64 ((zAI l0 x39_2).f0))) (fun _ hk=>hk.2) (.int .i64 ((zAI l0 x39_2).f1))) (fun _ h_=>h_.1))) hb);replace BK110:=zA (zN (g:=gb110) (o:=.cells #[.int .i64 ((zAI l0 x39_2).f0),.int .i64 ((zAI l0 x39_2).f1)] 96 (0,0)) (by (with_reducible repeat (first|refine zL ?_ _|refine zM ?_|refine zK ?_ _));refine zO (cs:=#[.int .i64 ((zAI l0 x39_2).f0),.int .i64 0]) ?_ 1 _ rfl;(with_reducible repeat (first|refine zL ?_ _|refine zM ?_|refine zK ?_ _));refine zO (cs:=#[.int .i64 0,.int .i64 0]) ?_ 0 _ rfl;(with_reducible repeat (first|refine zL ?_ _|refine zM ?_|refine zK ?_ _));exact BK110.out) hb);replace HB:=zA (zH qb hb);clear hb));go_ret2;exact ⟨qe,qb⟩
         ·nomatch H
        ·nomatch H
       ·have H':=zA H;clear H;go_wp2;go_loopg [52] k2 (fun kq v52 w'=>∃ (x52_3:Int),v52 = .int .i64 x52_3∧Aside0 (zAj.l1 kq l0 t105 l0 (l0.length:Int) x52_3 = some (r1,r2))∧Aside0 (kq ≤ k2)∧Aside0 (Kd.R (Kd.int .i64) 3 w' w.heap.size (fun _=>True) v107 t105)∧Aside0 (Below w.heap.size w w'))
        case atStart=>exact ⟨(0),qr,H',⟨Nat.le_refl _⟩,⟨qR HO_6⟩,⟨qb⟩⟩
        case round =>
         clear H';obtain ⟨x52_3,rfl,HA,HK3,HO_6,HB⟩:=hrel;cases gk with
         | zero=>exact absurd HA.out (by simp [zAj.l1])
         | succ k3 =>
          have H:=HA.out;clear HA;simp only [zAj.l1] at H;rcases qj H with ⟨c20b0,H⟩|⟨c20b0,H⟩
          ·rcases qj H with ⟨c21b0,H⟩|⟨c21,H⟩
           ·rcases qj H with ⟨c22b0,H⟩|⟨c22,H⟩
            ·replace H:=zb.mp H;obtain ⟨⟨t118,t119,t120⟩,A230,H⟩:=H;(try dsimp only at H);have A23:=zA A230;clear A230;have H':=zA H;clear H;have p116:0 ≤ (x52_3:Int):=qd;have q116:x52_3 < (l0.length:Int):=qd;obtain ⟨ad116,e116,hx116_0,hx116_1⟩:=zA6 (qW HR0 HB) x52_3 p116 q116;cases e116;replace p116:=qT p116;replace q116:=qT q116;go_wp2_with (first|((with_reducible refine zV (N:=12) rfl ?_);refine bq 12 (cs:=#[.int .i64 0,.int .i64 0]) (t:=96) ?_;intro gb117 hg w24 hbox hb;replace HO_6:=zA (Kd.R_below (qR HO_6) hb);have BK117:=zA (hbox);have GW117:=zA (qg hg);replace HB:=zA (zH qb hb);clear hb hbox hg;obtain ⟨hcz25_0,hcz25_1⟩:=q2 BK117;have hfz25_0:=zJ BK117.out)|((with_reducible refine zU (f:=109) rfl ?_);refine gL (some 60) Tryz.func109 #[.int .i64 ((zAI l0 x52_3).f0)] ?_;(with_reducible refine (zAo.calls k3 ((zAI l0 x52_3).f0) t118 t119 t120 _ A23.out).mono ?_);rintro e w' ⟨rfl,⟨nd,rfl⟩⟩;refine ⟨_,rfl,?_⟩));go_loopg [16] k3 (fun kq v16 w'=>∃ (x16_4:Int),v16 = .int .i64 x16_4∧Aside0 (zAj.l2 kq l0 t105 x52_3 t119 x16_4 l0 (l0.length:Int) x52_3 = some (r1,r2))∧Aside0 (kq ≤ k3)∧Aside0 (Kd.R (Kd.int .i64) 3 w' w.heap.size (fun _=>True) v107 t105)∧Aside0 (w'.heap[gb117]? = some (.cells #[.int .i64 ((zAI l0 x52_3).f0),.int .i64 ((zAI l0 x52_3).f1)] 96 (0,0)))∧Aside0 (Below w.heap.size w w'))
             case atStart=>exact ⟨(wrap64 (x52_3 + 1)),qr,H',⟨Nat.le_refl _⟩,⟨by (with_reducible repeat (first|apply Kd.R_alloc|apply Kd.R_drewN|apply Kd.R_drew));exact Kd.R_mono (Kd.R_far (p:=⟨gb117,1,none⟩) (Kd.R_far (p:=⟨gb117,0,none⟩) (Kd.R_types HO_6.out BK117.out (by decide)) (fun _ hk=>hk.2) (.int .i64 ((zAI l0 x52_3).f0))) (fun _ hk=>hk.2) (.int .i64 ((zAI l0 x52_3).f1))) (fun _ hk=>trivial)⟩,⟨by (with_reducible repeat (first|refine zL ?_ _|refine zM ?_|refine zK ?_ _));refine zO (cs:=#[.int .i64 ((zAI l0 x52_3).f0),.int .i64 0]) ?_ 1 _ rfl;(with_reducible repeat (first|refine zL ?_ _|refine zM ?_|refine zK ?_ _));refine zO (cs:=#[.int .i64 0,.int .i64 0]) ?_ 0 _ rfl;(with_reducible repeat (first|refine zL ?_ _|refine zM ?_|refine zK ?_ _));exact BK117.out⟩,⟨qb⟩⟩
             case round =>
              clear H';obtain ⟨x16_4,rfl,HA,HK4,HO_6,BK117,HB⟩:=hrel;cases gk with
              | zero=>exact absurd HA.out (by simp [zAj.l2])
              | succ k4 =>
               have H:=HA.out;clear HA;simp only [zAj.l2] at H;rcases qj H with ⟨c26b0,H⟩|⟨c26,H⟩
               ·rcases qj H with ⟨c27b0,H⟩|⟨c27,H⟩
                ·rcases qj H with ⟨c28b0,H⟩|⟨c28b0,H⟩
                 ·rcases qj H with ⟨c29b0,H⟩|⟨c29,H⟩
                  ·rcases qj H with ⟨c30b0,H⟩|⟨c30,H⟩
                   ·replace H:=zb.mp H;obtain ⟨⟨t123,t124,t125⟩,A310,H⟩:=H;(try dsimp only at H);have A31:=zA A310;clear A310;by_cases c32:(t123 != t119) = true
                    ·rw [if_pos c32] at H;have c32b0:(t123 != t119) = true:=c32;(try (have c32b1:decide (t123 = t119) = false:=by simpa using c32));(try (have c32b2:(t123 == t119) = false:=by simpa using c32));(try (have c32b3:¬ (t123 = t119):=by simpa using c32));clear c32;obtain ⟨rfl,rfl⟩:=qP H;obtain ⟨Ao33,co33,eo33⟩:=Kd.R_slice HO_6.out;subst eo33;have p121:0 ≤ (x52_3:Int):=qd;have q121:x52_3 < (t105.length:Int):=qd;(try (obtain ⟨A_,c_,e_⟩:=Kd.R_slice HO_6.out;subst e_));obtain ⟨ad121,e121,hx121_0⟩:=Kd.at_int (Kd.R_reads' HO_6.out).2.2 x52_3 p121 q121;cases e121;replace p121:=qT p121;replace q121:=qT q121;have p122:0 ≤ (x16_4:Int):=qd;have q122:x16_4 < (l0.length:Int):=qd;obtain ⟨ad122,e122,hx122_0,hx122_1⟩:=zA6 (qW HR0 HB) x16_4 p122 q122;obtain rfl:ad116 = ad122:=(by injection e122);replace p122:=qT p122;replace q122:=qT q122;go_wp2_with (first|((with_reducible refine zU (f:=109) rfl ?_);refine gL (some 82) Tryz.func109 #[.int .i64 ((zAI l0 x16_4).f0)] ?_;(with_reducible refine (zAo.calls k4 ((zAI l0 x16_4).f0) t123 t124 t125 _ A31.out).mono ?_);rintro e w' ⟨rfl,⟨nd,rfl⟩⟩;refine ⟨_,rfl,?_⟩));go_ret2;exact ⟨qe,qb⟩
                    ·rw [if_neg c32] at H;have c32b0:(t123 != t119) = false:=by simpa using c32
                     (try (have c32b1:decide (t123 = t119) = true:=by simpa using c32));(try (have c32b2:(t123 == t119) = true:=by simpa using c32));clear c32;rcases qj H with ⟨c34b0,H⟩|⟨c34,H⟩
                     ·have H':=zA H;clear H;obtain ⟨Ao35,co35,eo35⟩:=Kd.R_slice HO_6.out;subst eo35;have p121:0 ≤ (x52_3:Int):=qd;have q121:x52_3 < (t105.length:Int):=qd;(try (obtain ⟨A_,c_,e_⟩:=Kd.R_slice HO_6.out;subst e_));obtain ⟨ad121,e121,hx121_0⟩:=Kd.at_int (Kd.R_reads' HO_6.out).2.2 x52_3 p121 q121;cases e121;replace p121:=qT p121;replace q121:=qT q121;have p122:0 ≤ (x16_4:Int):=qd;have q122:x16_4 < (l0.length:Int):=qd;obtain ⟨ad122,e122,hx122_0,hx122_1⟩:=zA6 (qW HR0 HB) x16_4 p122 q122;obtain rfl:ad116 = ad122:=(by injection e122);replace p122:=qT p122;replace q122:=qT q122;go_wp2_with (first|((with_reducible refine zU (f:=109) rfl ?_);refine gL (some 82) Tryz.func109 #[.int .i64 ((zAI l0 x16_4).f0)] ?_;(with_reducible refine (zAo.calls k4 ((zAI l0 x16_4).f0) t123 t124 t125 _ A31.out).mono ?_);rintro e w' ⟨rfl,⟨nd,rfl⟩⟩;refine ⟨_,rfl,?_⟩;have p126:0 ≤ (x16_4:Int):=qd;have q126:x16_4 < (t105.length:Int):=qd;obtain ⟨ad126,e126,hx126_0⟩:=Kd.at_int (Kd.R_reads' HO_6.out).2.2 x16_4 p126 q126;obtain rfl:ad121 = ad126:=(by injection e126);replace p126:=qT p126;replace q126:=qT q126));go_roundg k4
                      case measure=>have:=HJ2.out;have:=HK2.out;have:=HK3.out;have:=HK4.out;omega
                      case rel=>exact ⟨(rd t105 x16_4),qr,H',⟨by have:=HJ2.out;have:=HK2.out;have:=HK3.out;have:=HK4.out;omega⟩,⟨qR HO_6⟩,⟨qk BK117⟩,⟨qb⟩⟩
                     ·nomatch H
                   ·nomatch H
                  ·nomatch H
                 ·have H':=zA H;clear H;obtain ⟨Ao36,co36,eo36⟩:=Kd.R_slice HO_6.out;subst eo36;have p121:0 ≤ (x52_3:Int):=qd;have q121:x52_3 < (t105.length:Int):=qd;(try (obtain ⟨A_,c_,e_⟩:=Kd.R_slice HO_6.out;subst e_));obtain ⟨ad121,e121,hx121_0⟩:=Kd.at_int (Kd.R_reads' HO_6.out).2.2 x52_3 p121 q121;cases e121;replace p121:=qT p121;replace q121:=qT q121;go_wp2;go_roundg k4
                  case measure=>have:=HJ2.out;have:=HK2.out;have:=HK3.out;have:=HK4.out;omega
                  case rel=>exact ⟨(wrap64 (x52_3 + 1)),qr,H',⟨by have:=HJ2.out;have:=HK2.out;have:=HK3.out;have:=HK4.out;omega⟩,⟨qR HO_6⟩,⟨qb⟩⟩
                ·nomatch H
               ·nomatch H
            ·nomatch H
           ·nomatch H
          ·by_cases c37:0 < (l0.length:Int)
           ·rw [if_pos c37] at H;have c37b0:decide (0 < (l0.length:Int)) = true:=zQ c37;have c37b1:decide (0 < l0.length) = true:=zQ (by omega);clear c37;replace H:=zb.mp H;obtain ⟨⟨t113,t114,t115⟩,A380,H⟩:=H;(try dsimp only at H);have A38:=zA A380;clear A380;obtain ⟨rfl,rfl⟩:=qP H;have p112:0 ≤ (0:Int):=(by omega);have q112:0 < (l0.length:Int):=qd;obtain ⟨ad112,e112,hx112_0,hx112_1⟩:=zA6 HR0.out 0 p112 q112;cases e112;have qi112:(0 < l0.length) = True:=qT (by omega);(try rw [show ((0:Int)).toNat = 0 from rfl] at hx112_0);(try rw [show 0 * 2 = 0 from rfl] at hx112_0);(try rw [Addr.add_zero'] at hx112_0);(try rw [show ((0:Int)).toNat = 0 from rfl] at hx112_1);(try rw [show 0 * 2 = 0 from rfl] at hx112_1);(try rw [Addr.add_zero'] at hx112_1);replace hx112_0:=qy HB hx112_0;replace hx112_1:=qy HB hx112_1;replace p112:=qT p112;replace q112:=qT q112;go_wp2_with (first|((with_reducible refine zU (f:=109) rfl ?_);refine gL (some 95) Tryz.func109 #[.int .i64 ((zAI l0 0).f0)] ?_;(with_reducible refine (zAo.calls k3 ((zAI l0 0).f0) t113 t114 t115 _ A38.out).mono ?_);rintro e w' ⟨rfl,⟨nd,rfl⟩⟩;refine ⟨_,rfl,?_⟩));go_ret2;exact ⟨qe,qb⟩
           ·rw [if_neg c37] at H;nomatch H
    ·obtain ⟨rfl,rfl⟩:=qP H;go_wp2_with (first|((with_reducible refine zU (f:=58) rfl ?_);refine gL (some 31) Tryz.func58 #[.slice A0 l0.length c0] ?_;(with_reducible refine (zBD.calls _ _ l0 t105 t106 _ (qc HR0) HC0.out qD A6.out).mono ?_);rintro e w39 ⟨v107,rfl,ho0,hb⟩;refine ⟨_,rfl,?_⟩;have HO108:=zA (Kd.R_lower ho0 qs);replace HB:=zA (zH qb hb);clear ho0 hb));go_ret2;exact ⟨qe,qb⟩
end Go.Proofs.YtgdijfhdpgdanaaGreatDoor.B
