import Derived.Test.YtbekikafhpdehaaDoorKVerdictRunsG9
import Derived.Test.YtbekikafhpdehaaDoorKVerdictRunsG12
import Derived.Test.YtbekikafhpdehaaDoorKVerdictRunsG15
namespace Go.Proofs.YtbekikafhpdehaaDoor.V
open Go.Proofs.YtbekikafhpdehaaDoor.Al
open List renaming length_drop → zd
open Go.Proofs.YtbekikafhpdehaaDoorW.PrintWords renaming below_alloc → zD, below_set → zF, blk_cell → zI, blk_frozen → zJ, Kd.C_below → zT
open Go.Proofs.YtbekikafhpdehaaDoor.Sq
open Go.RowKit Go.Proofs.YtbekikafhpdehaaDoorW.PrintWords Go.Proofs.YtbekikafhpdehaaDoorW.PrintLast Go.Proofs.YtbekikafhpdehaaDoorW.PrintMore
attribute [local go_sem] max2_int min2_int max_two min_two max_three min_three max_four min_four
set_option linter.unusedVariables false
set_option linter.unusedSimpArgs false
section
open Go.Proofs.YtbekikafhpdehaaDoor.Hand
structure RdOK (w:World) (gr ge:Nat) (A:Option Addr) (c:Nat) (l:List S73) (ends:List Int):Prop where
 ne:gr ≠ ge
 rd:w.heap[gr]? = some (.cells #[.slice A l.length c,.slice (some ⟨ge,0,none⟩) l.length l.length] 125 (0,0))
 en:w.heap[ge]? = some (.cells (nums .i64 ends).toArray 3 (0,0))
 len:ends.length = l.length
 cap:l.length ≤ c
 max:l.length ≤ 60
 ops:∀ W,w.grownBy W (some ge) → Kd.C k73 W A l.length l
 laid:∀ W,w.grownBy W (some ge) → LaidG W
theorem RdOK.step {w w':World} {gr ge:Nat} {A:Option Addr} {c:Nat} {l:List S73} {ends ends':List Int} (h:RdOK w gr ge A c l ends) (hg:w.grownBy w' (some ge)) (he:w'.heap[ge]? = some (.cells (nums .i64 ends').toArray 3 (0,0))) (hl:ends'.length = l.length):RdOK w' gr ge A c l ends' :=
 ⟨h.ne,(hg.block gr (blk_lt h.rd) (by intro e;exact h.ne (by injection e))).trans h.rd,he,hl,h.cap,h.max,fun W hW=>h.ops W (grownBy_trans hg hW),fun W hW=>h.laid W (grownBy_trans hg hW)⟩
def SkipPost (l:List S73) (at_:Nat) (ends:List Int) (w:World) (ge:Nat) (e:Ending) (w':World):Prop :=
 ∃ ends',ends'.length = l.length∧w.grownBy w' (some ge)∧w'.heap[ge]? = some (.cells (nums .i64 ends').toArray 3 (0,0)) ∧
  match scan (l.drop at_) 1 with
  | .error c=>e = .panicked [{ v:=.iface 27 (.int .i64 c),recovered:=false }]
  | .ok r=>e = .returned (.int .i64 ((l.length:Int) - r.length))∧∀ i,i < l.length → ends'[i]? = if at_ ≤ i∧(i:Int) < (l.length:Int) - r.length then some (endAt l i) else ends[i]?
set_option maxHeartbeats 1000000 in
theorem skip_calls (gr ge:Nat) (A:Option Addr) (c:Nat) (l:List S73) (fuel:Nat):∀ (at_:Nat) (ends:List Int) (w:World),l.length - at_ < fuel → RdOK w gr ge A c l ends →
  Calls Tryd.prog 97 #[.pointer (some ⟨gr,0,none⟩),.int .i64 (at_:Int)] w (SkipPost l at_ ends w ge):=by
 induction fuel with
 | zero=>intro at_ ends w hf;omega
 | succ fuel ih =>
  intro at_ ends w hf hR;have c0:w.cell? ⟨gr,0,none⟩ = some (.slice A l.length c):=zI hR.rd 0;have c1:w.cell? ⟨gr,1,none⟩ = some (.slice (some ⟨ge,0,none⟩) l.length l.length):=zI hR.rd 1;have hmax:=hR.max;have H:=zA hR;clear hR;by_cases hlt:at_ < l.length
  ·have hC:=H.out.ops w (World.grownBy.refl w _);obtain ⟨ad,e1,h0,h1⟩:=at_T73 hC at_ (by omega) (by omega);subst e1;obtain ⟨o,ho⟩:∃ o,o = l[at_]:=⟨_,rfl⟩;have hg:rd_T73 l at_ = o:=by rw [ho];exact Base.getD_get _ _ _ hlt
   rw [hg,Int.toNat_natCast] at h0 h1;have hp:polish_Parts.f o.f0 = some ((partsS o.f0).1,(partsS o.f0).2):=by unfold polish_Parts.f partsS;split <;> rfl
   have hsc:scan (l.drop at_) 1 = if (partsS o.f0).2 = 0 then scan (l.drop (at_ + 1)) (partsS o.f0).1.toNat else .error (partsS o.f0).2:=by
    rw [List.drop_eq_getElem_cons hlt,scan_cons,← ho,Nat.zero_add]
   have hn:=partsS_bd (a:=o.f0);obtain ⟨n,hn1⟩:∃ n,n = (partsS o.f0).1:=⟨_,rfl⟩;obtain ⟨er,hn2⟩:∃ er,er = (partsS o.f0).2:=⟨_,rfl⟩;rw [← hn1,← hn2] at hp hsc;rw [← hn1,← hn2] at hn;have HP:=zA hp;have HS:=zA hsc;clear hp hsc hC hg ho hn1 hn2;have hidx:decide ((at_:Int) < (l.length:Int)) = true:=zQ (by omega);by_cases her:er = 0
   ·have hn:=hn her;subst her;go_enter Tryd.func97,Tryd.ntmps97;go_wp2_with (go_at_call 99;refine (polish_Parts.calls o.f0 n 0 _ ?hL HP.out).mono ?_;(case hL=>exact H.out.laid _ (grownBy_drewN (World.grownBy.refl w _) 0));rintro e w' ⟨rfl,⟨nd,rfl⟩⟩);go_loopg [7,35] n.toNat (fun kq v7 v35 wr=>∃ (p j:Nat) (ends1:List Int),v7 = .int .i64 (p:Int)∧v35 = .int .i64 (j:Int)∧Aside0 (j + kq = n.toNat)∧Aside0 (scan (l.drop (at_ + 1)) j = .ok (l.drop p))∧Aside0 (p ≤ l.length∧at_ + 1 ≤ p)∧Aside0 (w.grownBy wr (some ge))∧Aside0 (ends1.length = l.length)∧Aside0 (wr.heap[ge]? = some (.cells (nums .i64 ends1).toArray 3 (0,0)))∧Aside0 (∀ i,i < l.length → ends1[i]? = if at_ + 1 ≤ i∧i < p then some (endAt l i) else ends[i]?))
    case atStart=>exact ⟨at_ + 1,0,ends,by first|rfl|(simp;done),rfl,⟨by omega⟩,⟨scan_zero _⟩,⟨by omega,by omega⟩,⟨grownBy_drewN (World.grownBy.refl w _) _⟩,⟨H.out.len⟩,⟨H.out.en⟩,⟨fun i hi=>by rw [if_neg (by omega)]⟩⟩
    case round =>
     obtain ⟨p,j,ends1,rfl,rfl,HJ,HSC,HP2,HG,HL1,HE,HV⟩:=hrel;obtain ⟨hp0,hp1⟩:=HP2.out;by_cases hj:(j:Int) < n
     ·have hjb:decide ((j:Int) < n) = true:=zQ hj;have HC:=zA (ih p ends1 wr (by omega) (H.out.step HG.out HE.out HL1.out));have hadd:=scan_add (l.drop (at_ + 1)) j 1;rw [HSC.out] at hadd;have hadd2:=scan_add (l.drop (at_ + 1)) (j + 1) (n.toNat - (j + 1));rw [show j + 1 + (n.toNat - (j + 1)) = n.toNat by omega] at hadd2;have HA:=zA hadd;have HA2:=zA hadd2;clear hadd hadd2;cases gk with
      | zero=>exact absurd HJ.out (by omega)
      | succ k1 =>
      match hs1:scan (l.drop p) 1 with
      | .error cc =>
       have HS1:=zA hs1;clear hs1;go_wp2_with (go_at_call 97;refine HC.out.mono ?_;rintro e w2 ⟨ends2,hl2,hg2,he2,hm2⟩;rw [HS1.out] at hm2;obtain rfl:=hm2;have HL2:=zA hl2;have HG2:=zA hg2;have HE2:=zA he2;clear hl2 hg2 he2);refine ⟨rfl,ends2,HL2.out,grownBy_trans HG.out HG2.out,HE2.out,?_⟩;have:scan (l.drop at_) 1 = .error cc:=by
        rw [HS.out,if_pos trivial,HA2.out,HA.out];simp only [HS1.out]
       rw [this]
      | .ok r1 =>
       obtain ⟨k,hk0,hk1,hk2⟩:=scan_suffix _ _ _ hs1;have hr:(l.length:Int) - r1.length = ((p + k:Nat):Int):=by rw [hk1];simp at hk0 ⊢;omega
       have hkl:p + k ≤ l.length:=by simp at hk0;omega
       have hrd:r1 = l.drop (p + k):=by rw [hk1,List.drop_drop]
       have HK:=zA hr;have HK2:=zA hrd;have HS1:=zA hs1;clear hs1 hr hrd hk0 hk1;go_wp2_with (go_at_call 97;refine HC.out.mono ?_;rintro e w2 ⟨ends2,hl2,hg2,he2,hm2⟩;rw [HS1.out] at hm2;obtain ⟨rfl,hv2⟩:=hm2;rw [HK.out];have HL2:=zA hl2;have HG2:=zA hg2;have HE2:=zA he2;have HV2:=zA hv2;clear hl2 hg2 he2 hv2);go_roundg k1
       case measure=>omega
       case rel =>
        refine ⟨p + k,j + 1,ends2,rfl,by simp,⟨qo HJ⟩,⟨?_⟩,⟨hkl,by omega⟩,⟨grownBy_trans HG.out HG2.out⟩,⟨HL2.out⟩,⟨HE2.out⟩,⟨fun i hi=>?_⟩⟩
        ·rw [HA.out];simp only [HS1.out,HK2.out]
        ·rw [HV2.out i hi,HK.out];by_cases q:p ≤ i∧(i:Int) < ((p + k:Nat):Int)
         ·rw [if_pos q,if_pos (by omega)]
         ·rw [if_neg q,HV.out i hi];by_cases q2:at_ + 1 ≤ i∧i < p
          ·rw [if_pos q2,if_pos (by omega)]
          ·rw [if_neg q2,if_neg (by omega)]
     ·have hjb:decide ((j:Int) < n) = false:=zR hj;have hR2:=H.out.step HG.out HE.out HL1.out;have hlt1:at_ < ends1.length:=by rw [HL1.out];exact hlt
      have d0:wr.cell? ⟨gr,1,none⟩ = some (.slice (some ⟨ge,0,none⟩) l.length l.length):=zI hR2.rd 1;have d1:wr.cell? ⟨ge,at_,none⟩ = some (.int .i64 ends1[at_]):=by rw [zI HE.out];simp [nums,hlt1]
      have d2:wr.frozen? ⟨ge,at_,none⟩ = false:=zJ HE.out at_;have hidx2:decide ((at_:Int) < (l.length:Int)) = true:=zQ (by omega);clear hR2;go_wp2;go_ret;have hsc:scan (l.drop at_) 1 = .ok (l.drop p):=by
       rw [HS.out,if_pos trivial,show n.toNat = j by have:=HJ.out;omega];exact HSC.out
      have hpe:(l.length:Int) - (l.drop p).length = (p:Int):=by rw [zd];omega
      refine ⟨ends1.set at_ p,by rw [List.length_set];exact HL1.out,grownBy_set HG.out _ _,?_,?_⟩
      ·rw [blk_set HE.out];congr 2;apply Array.ext';simp [nums,List.map_set]
      ·rw [hsc];refine ⟨by rw [hpe];rfl,fun i hi=>?_⟩;rw [hpe,List.getElem?_set];by_cases q:at_ = i
       ·subst q;rw [if_pos rfl,if_pos hlt1,if_pos (by omega)];unfold endAt;rw [hsc];exact congrArg some hpe.symm
       ·rw [if_neg q,HV.out i hi];by_cases q2:at_ + 1 ≤ i∧i < p
        ·rw [if_pos q2,if_pos (by omega)]
        ·rw [if_neg q2,if_neg (by omega)]
   ·have herb:(er == 0) = false:=by rw [beq_eq_false_iff_ne];exact her
    have herb2:(er != 0) = true:=by rw [bne_iff_ne];exact her
    go_enter Tryd.func97,Tryd.ntmps97;go_wp2_with (go_at_call 99;refine (polish_Parts.calls o.f0 n er _ ?hL HP.out).mono ?_;(case hL=>exact H.out.laid _ (grownBy_drewN (World.grownBy.refl w _) 0));rintro e w' ⟨rfl,⟨nd,rfl⟩⟩);refine ⟨rfl,ends,H.out.len,grownBy_drewN (World.grownBy.refl w _) _,H.out.en,?_⟩;rw [show scan (l.drop at_) 1 = .error er by rw [HS.out,if_neg her]]
  ·have hge:decide ((at_:Int) ≥ (l.length:Int)) = true:=zQ (by omega);have hge2:decide (l.length ≤ at_) = true:=zQ (by omega);go_enter Tryd.func97,Tryd.ntmps97;go_wp2;refine ⟨rfl,ends,H.out.len,World.grownBy.refl w _,H.out.en,?_⟩;rw [show scan (l.drop at_) 1 = .error 4 by rw [List.drop_of_length_le (by omega)];rfl]
theorem assert_errno (c:Int) (W:World):(Instr.typeAssert (.iface 27 (.int .i64 c)) 20 27 false).run Tryd.prog W = .ok (.int .i64 c) W:=by kernel_rfl
theorem catch_panicking (b1 b2:Nat) (hb:b1 ≠ b2) (y:Int) (c:Int) (older:List PanicEntry) (w:World) (hc:w.cell? ⟨b1,0,none⟩ = some (.slice none 0 0)) (hz:w.frozen? ⟨b1,0,none⟩ = false) (hc2:w.cell? ⟨b2,0,none⟩ = some (.int .i64 0)) (hz2:w.frozen? ⟨b2,0,none⟩ = false) :
  CallsD Tryd.prog 96 #[.pointer (some ⟨b1,0,none⟩),.pointer (some ⟨b2,0,none⟩)] (.panicking ({ v:=.iface 27 (.int .i64 c),recovered:=false } :: older)) w fun e u' w' =>
   e = .returned (.tuple #[])∧u' = .panicking ({ v:=.iface 27 (.int .i64 c),recovered:=true } :: older)∧Same w' ((w.setCell ⟨b1,0,none⟩ (.slice none 0 0)).setCell ⟨b2,0,none⟩ (.int .i64 c)):=by
 have hc21:(w.setCell ⟨b1,0,none⟩ (.slice none 0 0)).cell? ⟨b2,0,none⟩ = some (.int .i64 0):=(World.cell?_setCell_other w ⟨b1,0,none⟩ ⟨b2,0,none⟩ _ (by intro e;injection e with e;exact hb e)).trans hc2;have hc12:(w.setCell ⟨b2,0,none⟩ (.int .i64 c)).cell? ⟨b1,0,none⟩ = some (.slice none 0 0):=(World.cell?_setCell_other w ⟨b2,0,none⟩ ⟨b1,0,none⟩ _ (by intro e;injection e with e;exact hb e.symm)).trans hc;refine callsD_of_wpS Tryd.func96 rfl fun c₀ cs hu=>?_;apply wpS_seq;apply wpS_region;simp [wpOpsS,go_sem,recoverD,hu,Tryd.ntmps96,Exit.thenS];apply wpS_seq;apply wpS_region;simp [wpOpsS,go_sem,recoverD,hu,Tryd.ntmps96,Exit.thenS];refine wpS_cond (t:=true) (by simp [Act.eval,Array.replicate]) ?_;simp only [if_true];refine wpS_of_wp ?_;simp [show Array.replicate 6 undef = #[undef,undef,undef,undef,undef,undef] from rfl];have hta:=assert_errno c;go_region;all_goals
  cases c₀;simp_all [bodyPostS,results,Tryd.results96];exact Same.drew _
theorem catch_idle (p q:Value) (w:World) :
  CallsD Tryd.prog 96 #[p,q] .returning w fun e u' w'=>e = .returned (.tuple #[])∧u' = .returning∧w' = w:=by
 refine callsD_of_wpS Tryd.func96 rfl fun c₀ cs hu=>?_;apply wpS_seq;apply wpS_region;simp [wpOpsS,go_sem,recoverD,hu,Tryd.ntmps96,Exit.thenS];apply wpS_seq;apply wpS_region;simp [wpOpsS,go_sem,Exit.thenS];refine wpS_cond (t:=false) (by simp [Act.eval,Array.replicate]) ?_;simp only [Bool.false_eq_true,if_false];refine wpS_of_wp (wp_skip ?_);cases c₀;simp_all [bodyPostS,results,Tryd.results96]
def polish_Ends.f (l0:List S73):Option (List Int × Int):=some (endsS l0)
set_option maxHeartbeats 1000000 in
theorem polish_Ends.calls (A0:Option Addr) (c0:Nat) (l0:List S73) (r1:List Int) (r2:Int) (w:World) (hr0:Kd.C k73 w A0 l0.length l0) (hc0:l0.length ≤ c0) (hL:LaidG w) (h:polish_Ends.f l0 = some (r1,r2)) :
  Calls Tryd.prog 71 #[.slice A0 l0.length c0] w fun e w'=>∃ v0_:Value,e = .returned (.tuple #[v0_,.int .i64 r2])∧Kd.R (Kd.int .i64) 3 w' w.heap.size (fun _=>True) v0_ r1∧Below w.heap.size w w':=by
 have hmf:∀ (fn:Fn) (first cap:Array Value) (w:World),(Instr.makeFunc fn first cap).run Tryd.prog w = .ok (.func fn first cap) w:=fun _ _ _ _=>rfl;have HR:=zA hr0;have HC:=zA hc0;have HLd:=zA hL;clear hr0 hc0 hL;have h:=Option.some.inj h;by_cases hlen:l0.length > 60
 ·have hb:decide ((l0.length:Int) > 60) = true:=zQ (by omega);unfold endsS at h;rw [if_pos hlen] at h;cases h;go_enter_defers Tryd.func71,Tryd.ntmps71;go_wp2;simp [bodyPostD,Leaves,settle,results,Tryd.results71,go_sem];exact ⟨Kd.R_nil _ _ _ _ _,zD (zD (Below.refl _ _) _) _⟩
 ·have hb:decide ((l0.length:Int) > 60) = false:=zR (by omega);have hmk:=print_make (P:=Tryd.prog) 32 3 .i64 8 Tryd.underlying32 info3 (by omega) l0.length (by omega);rw [made_nums] at hmk;unfold endsS at h;rw [if_neg hlen] at h;have HH:=zA h;clear h;go_enter_defers Tryd.func71,Tryd.ntmps71;go_wp2_with fail;clear hmk;have hsz:∀ (W:World) (o:Obj),(W.alloc o).heap.size = W.heap.size + 1:=size_alloc;obtain ⟨W,hW⟩:∃ W,W = ((((w.alloc (Obj.cells #[Value.slice none 0 0] 32)).alloc (Obj.cells #[Value.int IntKind.i64 0] 27)).alloc (Obj.cells (nums .i64 (List.replicate l0.length 0)).toArray 3)).alloc (Obj.cells #[Value.slice A0 l0.length c0,Value.slice (some { block:=w.heap.size + 1 + 1,off:=0 }) l0.length l0.length] 125)):=⟨_,rfl⟩;have hBW:Below w.heap.size w W:=by rw [hW];exact zD (zD (zD (zD (Below.refl _ _) _) _) _) _
  have hs4:W.heap.size = w.heap.size + 4:=by rw [hW];simp [hsz]
  have a1:W.heap[w.heap.size]? = some (.cells #[Value.slice none 0 0] 32 (0,0)):=by
   rw [hW,heap_old _ (by simp;omega),heap_old _ (by simp;omega),heap_old _ (by simp)];exact heap_new _ _
  have a2:W.heap[w.heap.size + 1]? = some (.cells #[Value.int IntKind.i64 0] 27 (0,0)):=by
   rw [hW,heap_old _ (by simp),heap_old _ (by simp),← hsz w (Obj.cells #[Value.slice none 0 0] 32)];exact heap_new _ _
  have a3:W.heap[w.heap.size + 1 + 1]? = some (.cells (nums .i64 (List.replicate l0.length 0)).toArray 3 (0,0)):=by
   rw [hW,heap_old _ (by simp),← hsz w (Obj.cells #[Value.slice none 0 0] 32),← hsz _ (Obj.cells #[Value.int IntKind.i64 0] 27)];exact heap_new _ _
  have a4:W.heap[w.heap.size + 1 + 1 + 1]? = some (.cells #[Value.slice A0 l0.length c0,Value.slice (some { block:=w.heap.size + 1 + 1,off:=0 }) l0.length l0.length] 125 (0,0)):=by
   rw [hW,← hsz w (Obj.cells #[Value.slice none 0 0] 32),← hsz _ (Obj.cells #[Value.int IntKind.i64 0] 27),← hsz _ (Obj.cells (nums .i64 (List.replicate l0.length 0)).toArray 3)];exact heap_new _ _
  rw [← hW];have below_of:∀ W2,W.grownBy W2 (some (w.heap.size + 1 + 1)) → Below w.heap.size w W2:=fun W2 hg=>hBW.grown hg (by omega) (fun k hk=>by injection hk with hk;omega);have HRd:RdOK W (w.heap.size + 1 + 1 + 1) (w.heap.size + 1 + 1) A0 c0 l0 (List.replicate l0.length 0) :=
   ⟨by omega,a4,a3,by simp,HC.out,by omega,fun W2 hg=>zT HR.out (below_of W2 hg),fun W2 hg=>HLd.out.below (below_of W2 hg)⟩
  have HS:=skip_calls (w.heap.size + 1 + 1 + 1) (w.heap.size + 1 + 1) A0 c0 l0 (l0.length + 1) 0 (List.replicate l0.length 0) W (by omega) HRd;have HBo:=zA below_of;have HA1:=zA a1;have HA2:=zA a2;have HA4:=zA a4;clear below_of HRd hW hBW a1 a2 a3 a4 hsz;refine HS.mono ?_;clear HS;rintro e w' ⟨ends',hl',hg',he',hm'⟩;rw [List.drop_zero] at hm';have HG:=zA hg';have HE:=zA he';have HL':=zA hl';have b1:w'.heap[w.heap.size]? = some (.cells #[Value.slice none 0 0] 32 (0,0)):=(hg'.block _ (blk_lt HA1.out) (by intro e;injection e with e;omega)).trans HA1.out;have b2:w'.heap[w.heap.size + 1]? = some (.cells #[Value.int IntKind.i64 0] 27 (0,0)):=(hg'.block _ (blk_lt HA2.out) (by intro e;injection e with e;omega)).trans HA2.out;have b4:w'.heap[w.heap.size + 1 + 1 + 1]? = some (.cells #[Value.slice A0 l0.length c0,Value.slice (some { block:=w.heap.size + 1 + 1,off:=0 }) l0.length l0.length] 125 (0,0)):=(hg'.block _ (blk_lt HA4.out) (by intro e;injection e with e;omega)).trans HA4.out;have k1:w'.cell? ⟨w.heap.size,0,none⟩ = some (.slice none 0 0):=zI b1 0;have k2:w'.cell? ⟨w.heap.size + 1,0,none⟩ = some (.int .i64 0):=zI b2 0;have k4:w'.cell? ⟨w.heap.size + 1 + 1 + 1,1,none⟩ = some (Value.slice (some { block:=w.heap.size + 1 + 1,off:=0 }) l0.length l0.length):=zI b4 1;have z1:w'.frozen? ⟨w.heap.size,0,none⟩ = false:=zJ b1 0;have z2:w'.frozen? ⟨w.heap.size + 1,0,none⟩ = false:=zJ b2 0;have HB':=zA (HBo.out w' hg');have hsz':w.heap.size + 4 ≤ w'.heap.size:=by rw [← hs4];exact hg'.size
  clear hl' hg' he' b4 HA1 HA2 HA4 HBo;have B1:=zA b1;have B2:=zA b2;clear b1 b2;have panics:∀ cc:Int,(r1,r2) = ([],cc) → ∀ (tmps:Array Value),tmps[2]?.getD undef = .pointer (some ⟨w.heap.size,0,none⟩) → tmps[3]?.getD undef = .pointer (some ⟨w.heap.size + 1,0,none⟩) →
    bodyPostD Tryd.prog Tryd.f71 (fun e w'=>∃ v0_:Value,e = .returned (.tuple #[v0_,.int .i64 r2])∧Kd.R (Kd.int .i64) 3 w' w.heap.size (fun _=>True) v0_ r1∧Below w.heap.size w w') (Exit.panic [{ v:=Value.iface 27 (Value.int IntKind.i64 cc),recovered:=false }])
     { tmps:=tmps,defers:=[{ target:=Target.fn (Fn.func 96) #[Value.pointer (some { block:=w.heap.size,off:=0 }),Value.pointer (some { block:=w.heap.size + 1,off:=0 })],args:=#[] }] } w':=by
   intro cc hr tmps t2 t3;simp only [Prod.mk.injEq] at hr;obtain ⟨rfl,rfl⟩:=hr;refine leaves_cons (f:=96) (args:=#[.pointer (some ⟨w.heap.size,0,none⟩),.pointer (some ⟨w.heap.size + 1,0,none⟩)]) (by simp) (by simp [go_sem]) ?_;refine (catch_panicking w.heap.size (w.heap.size + 1) (by omega) 0 _ [] w' k1 z1 k2 z2).mono ?_;rintro e u' w'' ⟨rfl,rfl,hsame⟩;have j1:w''.cell? ⟨w.heap.size,0,none⟩ = some (.slice none 0 0):=by rw [hsame.cell];simp [go_sem,k1]
   have j2:w''.cell? ⟨w.heap.size + 1,0,none⟩ = some (.int .i64 r2):=by rw [hsame.cell];simp [go_sem,k2]
   simp [Leaves,settle,results,Tryd.results71,go_sem,j1,j2,t2,t3];exact ⟨Kd.R_nil _ _ _ _ _,Same.below (zF (zF HB'.out (Nat.le_refl _)) (by omega)) hsame⟩
  cases hsc:scan l0 1 with
  | error cc =>
   rw [hsc] at hm';obtain rfl:=hm';have hr:=HH.out;rw [hsc] at hr;exact panics cc hr.symm _ rfl rfl
  | ok r =>
   rw [hsc] at hm';obtain ⟨rfl,hv'⟩:=hm';have hr:=HH.out;rw [hsc] at hr;obtain ⟨k,hk0,hk1,hk2⟩:=scan_suffix _ _ _ hsc;by_cases hnil:r = []
   ·subst hnil;simp only [if_true,Prod.mk.injEq] at hr;obtain ⟨rfl,rfl⟩:=hr;have hr1:(List.range l0.length).map (endAt l0) = ends':=by
     apply List.ext_getElem?;intro i;by_cases hi:i < l0.length
     ·rw [hv' i hi,if_pos ⟨by omega,by simp;omega⟩];simp [hi]
     ·rw [List.getElem?_eq_none (by simp;omega),List.getElem?_eq_none (by rw [HL'.out];omega)]
    have HV:=zA hr1;clear hv' hr1 hsc hk0 hk1 hk2 panics;have hz:(l0.length:Int) - (([]:List S73).length:Int) = (l0.length:Int):=by simp
    rw [hz];clear hz;go_wp2;refine leaves_cons (f:=96) (args:=#[.pointer (some ⟨w.heap.size,0,none⟩),.pointer (some ⟨w.heap.size + 1,0,none⟩)]) (by simp) (by simp [go_sem]) ?_;refine (catch_idle _ _ _).mono ?_;rintro e u' w'' ⟨rfl,rfl,rfl⟩;simp [Leaves,settle,results,Tryd.results71,go_sem,k1,k2];exact ⟨by rw [HV.out,← HL'.out];exact Kd.R_lower (R_setb (R_setb (R_of_block HE.out (Nat.le_refl _) (by have:=HL'.out;omega)) (show w.heap.size < _ by omega) _) (show w.heap.size + 1 < _ by omega) _) (by omega),zF (zF HB'.out (Nat.le_refl _)) (by omega)⟩
   ·have hne:((l0.length:Int) - (r.length:Int) != (l0.length:Int)) = true:=by
     rw [bne_iff_ne];intro e;apply hnil;exact List.eq_nil_of_length_eq_zero (by omega)
    simp only [if_neg hnil] at hr;clear hv' hk0 hk1 hk2;go_wp2;exact panics 3 hr.symm _ rfl rfl
end
end Go.Proofs.YtbekikafhpdehaaDoor.V
namespace Go.Proofs.YtbekikafhpdehaaDoor.V
open Go.Proofs.YtbekikafhpdehaaDoor.Al
open Go.Proofs.YtbekikafhpdehaaDoorW.PrintWords
open Go.Proofs.YtbekikafhpdehaaDoor.Sq
open Go.RowKit Go.Proofs.YtbekikafhpdehaaDoorW.PrintWords Go.Proofs.YtbekikafhpdehaaDoorW.PrintLast Go.Proofs.YtbekikafhpdehaaDoorW.PrintMore
attribute [local go_sem] max2_int min2_int max_two min_two max_three min_three max_four min_four
set_option linter.unusedVariables false
set_option linter.unusedSimpArgs false
mutual
def expr_truth.j0:Nat → Int → Bool → Option (Bool × Bool × Bool)
 | 0,_,_=>none
 | k + 1,x5,x6=>if x6 = true then (some (false,false,true)) else (if x5 = 6 then (expr_truth.j1 k x5 (x5 == 6)) else (expr_truth.j1 k x5 (x5 == 7)))
def expr_truth.j1:Nat → Int → Bool → Option (Bool × Bool × Bool)
 | 0,_,_=>none
 | k + 1,x5,x12=>if x12 = true then (some (true,false,true)) else (if x5 = 8 then (some (true,true,true)) else (if x5 = 9 then (some (true,true,true)) else (if x5 = 10 then (some (true,true,true)) else (if x5 = 11 then (some (true,true,true)) else (if x5 = 12 then (some (true,true,true)) else (some (false,false,false)))))))
end
def expr_truth.f (k:Nat) (a0:Int):Option (Bool × Bool × Bool):=if a0 = 1 then (expr_truth.j0 k a0 (a0 == 1)) else (if a0 = 2 then (expr_truth.j0 k a0 (a0 == 2)) else (if a0 = 3 then (expr_truth.j0 k a0 (a0 == 3)) else (if a0 = 4 then (expr_truth.j0 k a0 (a0 == 4)) else (expr_truth.j0 k a0 (a0 == 5)))))
theorem expr_truth.mono_l:∀ k,(∀ y0 y1,LeO (expr_truth.j0 k y0 y1) (expr_truth.j0 (k + 1) y0 y1))∧(∀ y0 y1,LeO (expr_truth.j1 k y0 y1) (expr_truth.j1 (k + 1) y0 y1))
 | 0=>⟨fun _ _ r h=>by simp [expr_truth.j0] at h,fun _ _ r h=>by simp [expr_truth.j1] at h⟩
 | k + 1=>by
  obtain ⟨ih0,ih1⟩:=expr_truth.mono_l k
  refine ⟨?_,?_⟩
  ·intro y0 y1
   unfold expr_truth.j0
   exact qL
  ·intro y0 y1
   unfold expr_truth.j1
   exact qL
theorem expr_truth.mono:∀ a0 k,LeO (expr_truth.f k a0) (expr_truth.f (k + 1) a0):=by
 intro a0 k;obtain ⟨ih0,ih1⟩:=expr_truth.mono_l k;unfold expr_truth.f;exact qL
set_option maxHeartbeats 8000000 in
set_option maxRecDepth 100000 in
theorem expr_truth.calls (k:Nat) (a0:Int) (r1:Bool) (r2:Bool) (r3:Bool) (w:World) (h:expr_truth.f k a0 = some (r1,r2,r3)) :
  Calls Tryd.prog 73 #[.int .i64 a0] w fun e w'=>e = .returned (.tuple #[.bool r1,.bool r2,.bool r3])∧Drawn0 w w':=by
 have H:(if a0 = 1 then (expr_truth.j0 k a0 (a0 == 1)) else (if a0 = 2 then (expr_truth.j0 k a0 (a0 == 2)) else (if a0 = 3 then (expr_truth.j0 k a0 (a0 == 3)) else (if a0 = 4 then (expr_truth.j0 k a0 (a0 == 4)) else (expr_truth.j0 k a0 (a0 == 5)))))) = some (r1,r2,r3):=h;clear h;have HC2:=zA H;clear H;go_enter Tryd.func73,Tryd.ntmps73;go_upto_if 6 with (fail);go_cut [6] (fun v6 wc=>∃ (kq:Nat) (x6_1:Bool),v6 = .bool x6_1∧Aside0 (expr_truth.j0 kq a0 x6_1 = some (r1,r2,r3))∧Aside0 (kq ≤ k)∧Drawn0 w wc)
 case first =>
  have H:=HC2.out;clear HC2;by_cases c3:a0 = 1
  ·rw [if_pos c3] at H;have c3b0:(a0 == 1) = true:=beq_iff_eq.mpr c3;have c3b1:(a0 != 1) = false:=bne_eq_false_iff_eq.mpr c3;clear c3;(first|rw [c3b0]|(simp only [i64_w,i32_w];rw [c3b0])|skip);have H':=zA H;clear H;go_wp2;go_meet
   case rel=>exact ⟨_,((a0 == 1)),qr,H',⟨qm⟩,qt⟩
  ·rw [if_neg c3] at H;have c3b0:(a0 == 1) = false:=beq_eq_false_iff_ne.mpr c3;have c3b1:(a0 != 1) = true:=bne_iff_ne.mpr c3;(first|rw [c3b0]|(simp only [i64_w,i32_w];rw [c3b0])|skip);by_cases c4:a0 = 2
   ·rw [if_pos c4] at H;have c4b0:(a0 == 2) = true:=beq_iff_eq.mpr c4;have c4b1:(a0 != 2) = false:=bne_eq_false_iff_eq.mpr c4;clear c4;have H':=zA H;clear H;go_wp2;go_meet
    case rel=>exact ⟨_,((a0 == 2)),qr,H',⟨qm⟩,qt⟩
   ·rw [if_neg c4] at H;have c4b0:(a0 == 2) = false:=beq_eq_false_iff_ne.mpr c4;have c4b1:(a0 != 2) = true:=bne_iff_ne.mpr c4;by_cases c5:a0 = 3
    ·rw [if_pos c5] at H;have c5b0:(a0 == 3) = true:=beq_iff_eq.mpr c5;have c5b1:(a0 != 3) = false:=bne_eq_false_iff_eq.mpr c5;clear c5;have H':=zA H;clear H;go_wp2;go_meet
     case rel=>exact ⟨_,((a0 == 3)),qr,H',⟨qm⟩,qt⟩
    ·rw [if_neg c5] at H;have c5b0:(a0 == 3) = false:=beq_eq_false_iff_ne.mpr c5;have c5b1:(a0 != 3) = true:=bne_iff_ne.mpr c5;by_cases c6:a0 = 4
     ·rw [if_pos c6] at H;have c6b0:(a0 == 4) = true:=beq_iff_eq.mpr c6;have c6b1:(a0 != 4) = false:=bne_eq_false_iff_eq.mpr c6;clear c6;have H':=zA H;clear H;go_wp2;go_meet
      case rel=>exact ⟨_,((a0 == 4)),qr,H',⟨qm⟩,qt⟩
     ·rw [if_neg c6] at H;have c6b0:(a0 == 4) = false:=beq_eq_false_iff_ne.mpr c6;have c6b1:(a0 != 4) = true:=bne_iff_ne.mpr c6;have H':=zA H;clear H;go_wp2;go_meet
      case rel=>exact ⟨_,((a0 == 5)),qr,H',⟨qm⟩,qt⟩
 case rest =>
  clear HC2;obtain ⟨kq,x6_1,rfl,HA,HJ1,⟨mc1,rfl⟩⟩:=hcut;cases kq with
  | zero=>exact absurd HA.out (by simp [expr_truth.j0])
  | succ kj1 =>
   have H:=HA.out;clear HA;simp only [expr_truth.j0] at H;by_cases c7:x6_1 = true
   ·subst c7;have H1:(some (false,false,true)) = some (r1,r2,r3):=by rw [if_pos rfl] at H;exact H
    clear H;have H:=H1;clear H1;simp only [Option.some.injEq,Prod.mk.injEq] at H;obtain ⟨rfl,rfl,rfl⟩:=H;go_wp2;go_ret3;exact ⟨qr,qt⟩
   ·replace c7:=Bool.eq_false_iff.mpr c7;subst c7;have H1:(if a0 = 6 then (expr_truth.j1 kj1 a0 (a0 == 6)) else (expr_truth.j1 kj1 a0 (a0 == 7))) = some (r1,r2,r3):=by rw [if_neg (show ¬ (false = true) by decide)] at H;exact H
    clear H;have H:=H1;clear H1;have HC8:=zA H;clear H;go_upto_if 12 with (fail);go_cut [12] (fun v12 wc=>∃ (kq:Nat) (x12_7:Bool),v12 = .bool x12_7∧Aside0 (expr_truth.j1 kq a0 x12_7 = some (r1,r2,r3))∧Aside0 (kq ≤ kj1)∧Drawn0 w wc)
    case first =>
     have H:=HC8.out;clear HC8;by_cases c9:a0 = 6
     ·rw [if_pos c9] at H;have c9b0:(a0 == 6) = true:=beq_iff_eq.mpr c9;have c9b1:(a0 != 6) = false:=bne_eq_false_iff_eq.mpr c9;clear c9;(first|rw [c9b0]|(simp only [i64_w,i32_w];rw [c9b0])|skip);have H':=zA H;clear H;go_wp2;go_meet
      case rel=>exact ⟨_,((a0 == 6)),qr,H',⟨qo HJ1⟩,qt⟩
     ·rw [if_neg c9] at H;have c9b0:(a0 == 6) = false:=beq_eq_false_iff_ne.mpr c9;have c9b1:(a0 != 6) = true:=bne_iff_ne.mpr c9;(first|rw [c9b0]|(simp only [i64_w,i32_w];rw [c9b0])|skip);have H':=zA H;clear H;go_wp2;go_meet
      case rel=>exact ⟨_,((a0 == 7)),qr,H',⟨qo HJ1⟩,qt⟩
    case rest =>
     clear HC8;obtain ⟨kq,x12_7,rfl,HA,HJ7,⟨mc7,rfl⟩⟩:=hcut;cases kq with
     | zero=>exact absurd HA.out (by simp [expr_truth.j1])
     | succ kj7 =>
      have H:=HA.out;clear HA;simp only [expr_truth.j1] at H;by_cases c10:x12_7 = true
      ·subst c10;have H1:(some (true,false,true)) = some (r1,r2,r3):=by rw [if_pos rfl] at H;exact H
       clear H;have H:=H1;clear H1;simp only [Option.some.injEq,Prod.mk.injEq] at H;obtain ⟨rfl,rfl,rfl⟩:=H;go_wp2;go_ret3;exact ⟨qr,qt⟩
      ·replace c10:=Bool.eq_false_iff.mpr c10;subst c10;have H1:(if a0 = 8 then (some (true,true,true)) else (if a0 = 9 then (some (true,true,true)) else (if a0 = 10 then (some (true,true,true)) else (if a0 = 11 then (some (true,true,true)) else (if a0 = 12 then (some (true,true,true)) else (some (false,false,false))))))) = some (r1,r2,r3):=by rw [if_neg (show ¬ (false = true) by decide)] at H;exact H
       clear H;have H:=H1;clear H1;by_cases c11:a0 = 8
       ·rw [if_pos c11] at H;have c11b0:(a0 == 8) = true:=beq_iff_eq.mpr c11;have c11b1:(a0 != 8) = false:=bne_eq_false_iff_eq.mpr c11;clear c11;simp only [Option.some.injEq,Prod.mk.injEq] at H;obtain ⟨rfl,rfl,rfl⟩:=H;go_wp2;go_ret3;exact ⟨qr,qt⟩
       ·rw [if_neg c11] at H;have c11b0:(a0 == 8) = false:=beq_eq_false_iff_ne.mpr c11;have c11b1:(a0 != 8) = true:=bne_iff_ne.mpr c11;by_cases c12:a0 = 9
        ·rw [if_pos c12] at H;have c12b0:(a0 == 9) = true:=beq_iff_eq.mpr c12;have c12b1:(a0 != 9) = false:=bne_eq_false_iff_eq.mpr c12;clear c12;simp only [Option.some.injEq,Prod.mk.injEq] at H;obtain ⟨rfl,rfl,rfl⟩:=H;go_wp2;go_ret3;exact ⟨qr,qt⟩
        ·rw [if_neg c12] at H;have c12b0:(a0 == 9) = false:=beq_eq_false_iff_ne.mpr c12;have c12b1:(a0 != 9) = true:=bne_iff_ne.mpr c12;by_cases c13:a0 = 10
         ·rw [if_pos c13] at H;have c13b0:(a0 == 10) = true:=beq_iff_eq.mpr c13;have c13b1:(a0 != 10) = false:=bne_eq_false_iff_eq.mpr c13;clear c13;simp only [Option.some.injEq,Prod.mk.injEq] at H;obtain ⟨rfl,rfl,rfl⟩:=H;go_wp2;go_ret3;exact ⟨qr,qt⟩
         ·rw [if_neg c13] at H;have c13b0:(a0 == 10) = false:=beq_eq_false_iff_ne.mpr c13;have c13b1:(a0 != 10) = true:=bne_iff_ne.mpr c13;by_cases c14:a0 = 11
          ·rw [if_pos c14] at H;have c14b0:(a0 == 11) = true:=beq_iff_eq.mpr c14;have c14b1:(a0 != 11) = false:=bne_eq_false_iff_eq.mpr c14;clear c14;simp only [Option.some.injEq,Prod.mk.injEq] at H;obtain ⟨rfl,rfl,rfl⟩:=H;go_wp2;go_ret3;exact ⟨qr,qt⟩
          ·rw [if_neg c14] at H;have c14b0:(a0 == 11) = false:=beq_eq_false_iff_ne.mpr c14;have c14b1:(a0 != 11) = true:=bne_iff_ne.mpr c14;by_cases c15:a0 = 12
           ·rw [if_pos c15] at H;have c15b0:(a0 == 12) = true:=beq_iff_eq.mpr c15;have c15b1:(a0 != 12) = false:=bne_eq_false_iff_eq.mpr c15;clear c15;simp only [Option.some.injEq,Prod.mk.injEq] at H;obtain ⟨rfl,rfl,rfl⟩:=H;go_wp2;go_ret3;exact ⟨qr,qt⟩
           ·rw [if_neg c15] at H;have c15b0:(a0 == 12) = false:=beq_eq_false_iff_ne.mpr c15;have c15b1:(a0 != 12) = true:=bne_iff_ne.mpr c15;simp only [Option.some.injEq,Prod.mk.injEq] at H;obtain ⟨rfl,rfl,rfl⟩:=H;go_wp2;go_ret3;exact ⟨qr,qt⟩
end Go.Proofs.YtbekikafhpdehaaDoor.V
namespace Go.Proofs.YtbekikafhpdehaaDoor.V
open Go.Proofs.YtbekikafhpdehaaDoor.Al
open Option renaming bind_eq_some_iff → zb
open Go.Proofs.YtbekikafhpdehaaDoorW.PrintWords renaming below_step → zH, blk_frozen → zJ, gate_callee → zU, gate_dst → zV
open Go.Proofs.YtbekikafhpdehaaDoor.Sq
open Go.RowKit Go.Proofs.YtbekikafhpdehaaDoorW.PrintWords Go.Proofs.YtbekikafhpdehaaDoorW.PrintLast Go.Proofs.YtbekikafhpdehaaDoorW.PrintMore
attribute [local go_sem] max2_int min2_int max_two min_two max_three min_three max_four min_four
set_option linter.unusedVariables false
set_option linter.unusedSimpArgs false
def expr_op.f (k:Nat) (a0_0:Int) (a0_1:Int) (a1:Int):Option (Int):=(expr_truth.f k a0_0).bind fun bt129=>(if bt129.2.2 = true then (if a0_0 = 1 then (if a0_1 < (-1000) then (some 2) else (if a0_1 > 1000 then (some 2) else (some 0))) else (if a0_0 = 2 then (if a0_1 < 0 then (some 2) else (if a0_1 > (wrap64 (a1 - 1)) then (some 2) else (some 0))) else (if a0_1 < 0 then (some 2) else (if a0_1 > 0 then (some 2) else (some 0))))) else (some 13))
theorem expr_op.mono:∀ a0 a1 a2 k,LeO (expr_op.f k a0 a1 a2) (expr_op.f (k + 1) a0 a1 a2):=by
 intro a0 a1 a2 k;unfold expr_op.f;exact qM @expr_truth.mono
set_option maxHeartbeats 8000000 in
set_option maxRecDepth 100000 in
theorem expr_op.calls (k:Nat) (a0_0:Int) (a0_1:Int) (a1:Int) (r:Int) (w:World) (h:expr_op.f k a0_0 a0_1 a1 = some r) :
  Calls Tryd.prog 72 #[.agg #[.int .i64 a0_0,.int .i64 a0_1],.int .i64 a1] w fun e w'=>e = .returned (.int .i64 r)∧Below w.heap.size w w':=by
 have hu73:=Tryd.underlying73;have HB:=zA (Below.refl w.heap.size w);have H:((expr_truth.f k a0_0).bind fun bt129=>(if bt129.2.2 = true then (if a0_0 = 1 then (if a0_1 < (-1000) then (some 2) else (if a0_1 > 1000 then (some 2) else (some 0))) else (if a0_0 = 2 then (if a0_1 < 0 then (some 2) else (if a0_1 > (wrap64 (a1 - 1)) then (some 2) else (some 0))) else (if a0_1 < 0 then (some 2) else (if a0_1 > 0 then (some 2) else (some 0))))) else (some 13))) = some r:=h;clear h;replace H:=zb.mp H;obtain ⟨⟨t129,t130,t131⟩,A30,H⟩:=H;replace H:(if t131 = true then (if a0_0 = 1 then (if a0_1 < (-1000) then (some 2) else (if a0_1 > 1000 then (some 2) else (some 0))) else (if a0_0 = 2 then (if a0_1 < 0 then (some 2) else (if a0_1 > (wrap64 (a1 - 1)) then (some 2) else (some 0))) else (if a0_1 < 0 then (some 2) else (if a0_1 > 0 then (some 2) else (some 0))))) else (some 13)) = some r:=H;have A3:=zA A30;clear A30;by_cases c4:t131 = true
 ·subst c4;have H1:(if a0_0 = 1 then (if a0_1 < (-1000) then (some 2) else (if a0_1 > 1000 then (some 2) else (some 0))) else (if a0_0 = 2 then (if a0_1 < 0 then (some 2) else (if a0_1 > (wrap64 (a1 - 1)) then (some 2) else (some 0))) else (if a0_1 < 0 then (some 2) else (if a0_1 > 0 then (some 2) else (some 0))))) = some r:=by rw [if_pos rfl] at H;exact H
  clear H;have H:=H1;clear H1;by_cases c5:a0_0 = 1
  ·rw [if_pos c5] at H;have c5b0:(a0_0 == 1) = true:=beq_iff_eq.mpr c5;have c5b1:(a0_0 != 1) = false:=bne_eq_false_iff_eq.mpr c5;clear c5;rcases qj H with ⟨c6b0,H⟩|⟨c6b0,H⟩
   ·obtain rfl:=Option.some.inj H;go_enter Tryd.func72,Tryd.ntmps72;go_wp2_with (first|((with_reducible refine zV (N:=2) rfl ?_);refine bq 2 (cs:=#[.int .i64 a0_0,.int .i64 a0_1]) (t:=73) ?_;intro gb128 hg w7 hbox hb;have BK128:=zA (hbox);have GW128:=zA (qg hg);have GE128:=zA (qg hg);replace HB:=zA (zH qb hb);clear hb hbox hg;have hcz8_0:=qx BK128 0;have hcz8_1:=qx BK128 1;have hfz8_0:=zJ BK128.out 0;have hfz8_1:=zJ BK128.out 1)|((with_reducible refine zU (f:=73) rfl ?_);refine gL (some 13) Tryd.func73 #[.int .i64 a0_0] ?_;(with_reducible refine (expr_truth.calls k a0_0 t129 t130 true _ A3.out).mono ?_);rintro e w' ⟨rfl,⟨nd,rfl⟩⟩;refine ⟨_,rfl,?_⟩));go_ret;exact ⟨qe,qb⟩
   ·by_cases c9:a0_1 > 1000
    ·rw [if_pos c9] at H;have c9b0:decide (1000 < a0_1) = true:=zQ c9;clear c9;obtain rfl:=Option.some.inj H;go_enter Tryd.func72,Tryd.ntmps72;go_wp2_with (first|((with_reducible refine zV (N:=2) rfl ?_);refine bq 2 (cs:=#[.int .i64 a0_0,.int .i64 a0_1]) (t:=73) ?_;intro gb128 hg w10 hbox hb;have BK128:=zA (hbox);have GW128:=zA (qg hg);have GE128:=zA (qg hg);replace HB:=zA (zH qb hb);clear hb hbox hg;have hcz11_0:=qx BK128 0;have hcz11_1:=qx BK128 1;have hfz11_0:=zJ BK128.out 0;have hfz11_1:=zJ BK128.out 1)|((with_reducible refine zU (f:=73) rfl ?_);refine gL (some 13) Tryd.func73 #[.int .i64 a0_0] ?_;(with_reducible refine (expr_truth.calls k a0_0 t129 t130 true _ A3.out).mono ?_);rintro e w' ⟨rfl,⟨nd,rfl⟩⟩;refine ⟨_,rfl,?_⟩));go_ret;exact ⟨qe,qb⟩
    ·rw [if_neg c9] at H;have c9b0:decide (1000 < a0_1) = false:=zR c9;clear c9;obtain rfl:=Option.some.inj H;go_enter Tryd.func72,Tryd.ntmps72;go_wp2_with (first|((with_reducible refine zV (N:=2) rfl ?_);refine bq 2 (cs:=#[.int .i64 a0_0,.int .i64 a0_1]) (t:=73) ?_;intro gb128 hg w12 hbox hb;have BK128:=zA (hbox);have GW128:=zA (qg hg);have GE128:=zA (qg hg);replace HB:=zA (zH qb hb);clear hb hbox hg;have hcz13_0:=qx BK128 0;have hcz13_1:=qx BK128 1;have hfz13_0:=zJ BK128.out 0;have hfz13_1:=zJ BK128.out 1)|((with_reducible refine zU (f:=73) rfl ?_);refine gL (some 13) Tryd.func73 #[.int .i64 a0_0] ?_;(with_reducible refine (expr_truth.calls k a0_0 t129 t130 true _ A3.out).mono ?_);rintro e w' ⟨rfl,⟨nd,rfl⟩⟩;refine ⟨_,rfl,?_⟩));go_ret;exact ⟨qe,qb⟩
  ·rw [if_neg c5] at H;have c5b0:(a0_0 == 1) = false:=beq_eq_false_iff_ne.mpr c5;have c5b1:(a0_0 != 1) = true:=bne_iff_ne.mpr c5;by_cases c14:a0_0 = 2
   ·rw [if_pos c14] at H;have c14b0:(a0_0 == 2) = true:=beq_iff_eq.mpr c14;have c14b1:(a0_0 != 2) = false:=bne_eq_false_iff_eq.mpr c14;clear c14;rcases qj H with ⟨c15b0,H⟩|⟨c15b0,H⟩
    ·obtain rfl:=Option.some.inj H;go_enter Tryd.func72,Tryd.ntmps72;go_wp2_with (first|((with_reducible refine zV (N:=2) rfl ?_);refine bq 2 (cs:=#[.int .i64 a0_0,.int .i64 a0_1]) (t:=73) ?_;intro gb128 hg w16 hbox hb;have BK128:=zA (hbox);have GW128:=zA (qg hg);have GE128:=zA (qg hg);replace HB:=zA (zH qb hb);clear hb hbox hg;have hcz17_0:=qx BK128 0;have hcz17_1:=qx BK128 1;have hfz17_0:=zJ BK128.out 0;have hfz17_1:=zJ BK128.out 1)|((with_reducible refine zU (f:=73) rfl ?_);refine gL (some 13) Tryd.func73 #[.int .i64 a0_0] ?_;(with_reducible refine (expr_truth.calls k a0_0 t129 t130 true _ A3.out).mono ?_);rintro e w' ⟨rfl,⟨nd,rfl⟩⟩;refine ⟨_,rfl,?_⟩));go_ret;exact ⟨qe,qb⟩
    ·by_cases c18:a0_1 > (wrap64 (a1 - 1))
     ·rw [if_pos c18] at H;have c18b0:decide ((wrap64 (a1 - 1)) < a0_1) = true:=zQ c18;clear c18;obtain rfl:=Option.some.inj H;go_enter Tryd.func72,Tryd.ntmps72;go_wp2_with (first|((with_reducible refine zV (N:=2) rfl ?_);refine bq 2 (cs:=#[.int .i64 a0_0,.int .i64 a0_1]) (t:=73) ?_;intro gb128 hg w19 hbox hb;have BK128:=zA (hbox);have GW128:=zA (qg hg);have GE128:=zA (qg hg);replace HB:=zA (zH qb hb);clear hb hbox hg;have hcz20_0:=qx BK128 0;have hcz20_1:=qx BK128 1;have hfz20_0:=zJ BK128.out 0;have hfz20_1:=zJ BK128.out 1)|((with_reducible refine zU (f:=73) rfl ?_);refine gL (some 13) Tryd.func73 #[.int .i64 a0_0] ?_;(with_reducible refine (expr_truth.calls k a0_0 t129 t130 true _ A3.out).mono ?_);rintro e w' ⟨rfl,⟨nd,rfl⟩⟩;refine ⟨_,rfl,?_⟩));go_ret;exact ⟨qe,qb⟩
     ·rw [if_neg c18] at H;have c18b0:decide ((wrap64 (a1 - 1)) < a0_1) = false:=zR c18;clear c18;obtain rfl:=Option.some.inj H;go_enter Tryd.func72,Tryd.ntmps72;go_wp2_with (first|((with_reducible refine zV (N:=2) rfl ?_);refine bq 2 (cs:=#[.int .i64 a0_0,.int .i64 a0_1]) (t:=73) ?_;intro gb128 hg w21 hbox hb;have BK128:=zA (hbox);have GW128:=zA (qg hg);have GE128:=zA (qg hg);replace HB:=zA (zH qb hb);clear hb hbox hg;have hcz22_0:=qx BK128 0;have hcz22_1:=qx BK128 1;have hfz22_0:=zJ BK128.out 0;have hfz22_1:=zJ BK128.out 1)|((with_reducible refine zU (f:=73) rfl ?_);refine gL (some 13) Tryd.func73 #[.int .i64 a0_0] ?_;(with_reducible refine (expr_truth.calls k a0_0 t129 t130 true _ A3.out).mono ?_);rintro e w' ⟨rfl,⟨nd,rfl⟩⟩;refine ⟨_,rfl,?_⟩));go_ret;exact ⟨qe,qb⟩
   ·rw [if_neg c14] at H;have c14b0:(a0_0 == 2) = false:=beq_eq_false_iff_ne.mpr c14;have c14b1:(a0_0 != 2) = true:=bne_iff_ne.mpr c14;rcases qj H with ⟨c23b0,H⟩|⟨c23b0,H⟩
    ·obtain rfl:=Option.some.inj H;go_enter Tryd.func72,Tryd.ntmps72;go_wp2_with (first|((with_reducible refine zV (N:=2) rfl ?_);refine bq 2 (cs:=#[.int .i64 a0_0,.int .i64 a0_1]) (t:=73) ?_;intro gb128 hg w24 hbox hb;have BK128:=zA (hbox);have GW128:=zA (qg hg);have GE128:=zA (qg hg);replace HB:=zA (zH qb hb);clear hb hbox hg;have hcz25_0:=qx BK128 0;have hcz25_1:=qx BK128 1;have hfz25_0:=zJ BK128.out 0;have hfz25_1:=zJ BK128.out 1)|((with_reducible refine zU (f:=73) rfl ?_);refine gL (some 13) Tryd.func73 #[.int .i64 a0_0] ?_;(with_reducible refine (expr_truth.calls k a0_0 t129 t130 true _ A3.out).mono ?_);rintro e w' ⟨rfl,⟨nd,rfl⟩⟩;refine ⟨_,rfl,?_⟩));go_ret;exact ⟨qe,qb⟩
    ·by_cases c26:a0_1 > 0
     ·rw [if_pos c26] at H;have c26b0:decide (0 < a0_1) = true:=zQ c26;clear c26;obtain rfl:=Option.some.inj H;go_enter Tryd.func72,Tryd.ntmps72;go_wp2_with (first|((with_reducible refine zV (N:=2) rfl ?_);refine bq 2 (cs:=#[.int .i64 a0_0,.int .i64 a0_1]) (t:=73) ?_;intro gb128 hg w27 hbox hb;have BK128:=zA (hbox);have GW128:=zA (qg hg);have GE128:=zA (qg hg);replace HB:=zA (zH qb hb);clear hb hbox hg;have hcz28_0:=qx BK128 0;have hcz28_1:=qx BK128 1;have hfz28_0:=zJ BK128.out 0;have hfz28_1:=zJ BK128.out 1)|((with_reducible refine zU (f:=73) rfl ?_);refine gL (some 13) Tryd.func73 #[.int .i64 a0_0] ?_;(with_reducible refine (expr_truth.calls k a0_0 t129 t130 true _ A3.out).mono ?_);rintro e w' ⟨rfl,⟨nd,rfl⟩⟩;refine ⟨_,rfl,?_⟩));go_ret;exact ⟨qe,qb⟩
     ·rw [if_neg c26] at H;have c26b0:decide (0 < a0_1) = false:=zR c26;clear c26;obtain rfl:=Option.some.inj H;go_enter Tryd.func72,Tryd.ntmps72;go_wp2_with (first|((with_reducible refine zV (N:=2) rfl ?_);refine bq 2 (cs:=#[.int .i64 a0_0,.int .i64 a0_1]) (t:=73) ?_;intro gb128 hg w29 hbox hb;have BK128:=zA (hbox);have GW128:=zA (qg hg);have GE128:=zA (qg hg);replace HB:=zA (zH qb hb);clear hb hbox hg;have hcz30_0:=qx BK128 0;have hcz30_1:=qx BK128 1;have hfz30_0:=zJ BK128.out 0;have hfz30_1:=zJ BK128.out 1)|((with_reducible refine zU (f:=73) rfl ?_);refine gL (some 13) Tryd.func73 #[.int .i64 a0_0] ?_;(with_reducible refine (expr_truth.calls k a0_0 t129 t130 true _ A3.out).mono ?_);rintro e w' ⟨rfl,⟨nd,rfl⟩⟩;refine ⟨_,rfl,?_⟩));go_ret;exact ⟨qe,qb⟩
 ·replace c4:=Bool.eq_false_iff.mpr c4;subst c4;have H1:(some 13) = some r:=by rw [if_neg (show ¬ (false = true) by decide)] at H;exact H
  clear H;have H:=H1;clear H1;obtain rfl:=Option.some.inj H;go_enter Tryd.func72,Tryd.ntmps72;go_wp2_with (first|((with_reducible refine zV (N:=2) rfl ?_);refine bq 2 (cs:=#[.int .i64 a0_0,.int .i64 a0_1]) (t:=73) ?_;intro gb128 hg w31 hbox hb;have BK128:=zA (hbox);have GW128:=zA (qg hg);have GE128:=zA (qg hg);replace HB:=zA (zH qb hb);clear hb hbox hg;have hcz32_0:=qx BK128 0;have hcz32_1:=qx BK128 1;have hfz32_0:=zJ BK128.out 0;have hfz32_1:=zJ BK128.out 1)|((with_reducible refine zU (f:=73) rfl ?_);refine gL (some 13) Tryd.func73 #[.int .i64 a0_0] ?_;(with_reducible refine (expr_truth.calls k a0_0 t129 t130 false _ A3.out).mono ?_);rintro e w' ⟨rfl,⟨nd,rfl⟩⟩;refine ⟨_,rfl,?_⟩));go_ret;exact ⟨qe,qb⟩
end Go.Proofs.YtbekikafhpdehaaDoor.V
