import Derived.BigRegion
import Derived.StillTailTactics
import Derived.Test.YtkcghbfmigdomaaKSccLassosG11
import Derived.Test.YtkcghbfmigdomaaKSccLassosG12
-- Cut by a program of this session (wip/prune.py) from a longer text: declarations that the law does not need are left out.
namespace Go.Proofs.Ytkcghbfmigdomaa.Q
open Go.Proofs.Ytkcghbfmigdomaa.Al
open Go.World renaming block_lt_of_cell? → zB
open Option renaming bind_eq_some_iff → zb
open List renaming set_cons_zero → zY, length_take → zt
open Go.Proofs.YtkcghbfmigdomaaW.PrintWords renaming below_alloc → zD, below_step → zH, blk_cell → zI, blk_frozen → zJ, blk_alloc → zK, blk_below → zN, Kd.C_below → zT, gate_callee → zU, gate_dst → zV
open Go.Proofs.Ytkcghbfmigdomaa.Sq
open Go.RowKit Go.Proofs.YtkcghbfmigdomaaW.PrintWords Go.Proofs.YtkcghbfmigdomaaW.PrintLast Go.Proofs.YtkcghbfmigdomaaW.PrintMore
attribute [local go_sem] max2_int min2_int max_two min_two max_three min_three max_four min_four
set_option linter.unusedVariables false
set_option linter.unusedSimpArgs false
section
open Go.Proofs.Ytkcghbfmigdomaa.Hand
open Go.Proofs.Ytkcghbfmigdomaa.Pure (Srch enterS leaveS goOnS lowUp segS safeS)
def frCells (l:List (Int × Int)):List Value:=l.flatMap fun c=>[.int .i64 c.1,.int .i64 c.2]
theorem frCells_append (l l':List (Int × Int)):frCells (l ++ l') = frCells l ++ frCells l':=by simp [frCells]
theorem frCells_len:∀ l:List (Int × Int),(frCells l).length = l.length * 2
 | []=>rfl
 | c :: l=>by
  have:=frCells_len l
  unfold frCells at this ⊢
  rw [List.flatMap_cons,List.length_append,this,List.length_cons]
  simp
  omega
theorem frCells_take (l:List (Int × Int)) (c:Int × Int):(frCells (l ++ [c])).take (l.length * 2) = frCells l:=by rw [frCells_append,List.take_left' (frCells_len l)]
theorem frCells_at0 (l:List (Int × Int)) (c:Int × Int):(frCells (l ++ [c]))[l.length * 2]? = some (.int .i64 c.1):=by
 rw [frCells_append,List.getElem?_append_right (by rw [frCells_len];exact Nat.le_refl _),frCells_len,Nat.sub_self];rfl
theorem frCells_at1 (l:List (Int × Int)) (c:Int × Int):(frCells (l ++ [c]))[l.length * 2 + 1]? = some (.int .i64 c.2):=by
 rw [frCells_append,List.getElem?_append_right (by rw [frCells_len];omega),frCells_len,Nat.add_sub_cancel_left];rfl
theorem frCells_set (l:List (Int × Int)) (a j j':Int):(frCells (l ++ [(a,j)])).set (l.length * 2 + 1) (.int .i64 j') = frCells (l ++ [(a,j')]):=by
 rw [frCells_append,frCells_append,List.set_append_right _ _ (by rw [frCells_len];omega),frCells_len,Nat.add_sub_cancel_left];rfl
structure SrchOK (base gs gO gL gP n:Nat) (g0 g1 g2 g3 g4:Value) (s:Srch) (vOp vC:Value) (w:World):Prop where
 b:w.heap[gs]? = some (.cells #[g0,g1,g2,g3,g4,.slice (some ⟨gO,0,none⟩) n n,.slice (some ⟨gL,0,none⟩) n n,.slice (some ⟨gP,0,none⟩) n n,vOp,vC,.int .i64 s.met] 58 (0,0))
 o:w.heap[gO]? = some (.cells (nums .i64 s.order).toArray 3 (0,0))
 l:w.heap[gL]? = some (.cells (nums .i64 s.low).toArray 3 (0,0))
 p:w.heap[gP]? = some (.cells (nums .i64 s.part).toArray 3 (0,0))
 op:w.ownsRow base 3 1 vOp s.opn.length (nums .i64 s.opn)
 ca:w.ownsRow base 65 2 vC s.calls.length (frCells s.calls)
 ap:∀ k,vOp.ownBlock = some k → k ≠ gO∧k ≠ gL∧k ≠ gP
 ne:gO ≠ gL∧gO ≠ gP∧gL ≠ gP
 bd:base ≤ gs∧base ≤ gO∧base ≤ gL∧base ≤ gP
theorem nums_put (xs:List Int) (i:Nat) (v:Int):(nums .i64 xs).toArray.setIfInBounds i (.int .i64 v) = (nums .i64 (xs.set i v)).toArray:=by
 simp [nums,List.map_set]
theorem nums_cell {w:World} {g:Nat} {xs:List Int} (h:w.heap[g]? = some (.cells (nums .i64 xs).toArray 3 (0,0))) (i:Int) (h0:0 ≤ i) (h1:i < (xs.length:Int)):w.cell? ⟨g,i.toNat,none⟩ = some (.int .i64 (rd xs i)):=by
 rw [zI h];have hlt:i.toNat < xs.length:=by omega
 simp [nums,rd,hlt]
section
variable {base gs gO gL gP n:Nat} {g0 g1 g2 g3 g4:Value} {s:Srch} {vOp vC:Value} {w:World} (h:SrchOK base gs gO gL gP n g0 g1 g2 g3 g4 s vOp vC w)
include h
theorem SrchOK.drew:SrchOK base gs gO gL gP n g0 g1 g2 g3 g4 s vOp vC w.drew:=⟨h.b,h.o,h.l,h.p,h.op,h.ca,h.ap,h.ne,h.bd⟩
theorem SrchOK.setO (i:Nat) (v:Int):SrchOK base gs gO gL gP n g0 g1 g2 g3 g4 { s with order:=s.order.set i v } vOp vC (w.setCell ⟨gO,i,none⟩ (.int .i64 v)) :=
 ⟨blk_far h.b (blk_ne h.b h.o (by decide)) _,by rw [blk_set h.o,nums_put],blk_far h.l h.ne.1.symm _,blk_far h.p h.ne.2.1.symm _,own_setCell h.op (fun e=>(h.ap gO e.symm).1 rfl) _,own_setCell h.ca (own_ne h.ca h.o (by decide)) _,h.ap,h.ne,h.bd⟩
theorem SrchOK.setL (i:Nat) (v:Int):SrchOK base gs gO gL gP n g0 g1 g2 g3 g4 { s with low:=s.low.set i v } vOp vC (w.setCell ⟨gL,i,none⟩ (.int .i64 v)) :=
 ⟨blk_far h.b (blk_ne h.b h.l (by decide)) _,blk_far h.o h.ne.1 _,by rw [blk_set h.l,nums_put],blk_far h.p h.ne.2.2.symm _,own_setCell h.op (fun e=>(h.ap gL e.symm).2.1 rfl) _,own_setCell h.ca (own_ne h.ca h.l (by decide)) _,h.ap,h.ne,h.bd⟩
theorem SrchOK.setP (i:Nat) (v:Int):SrchOK base gs gO gL gP n g0 g1 g2 g3 g4 { s with part:=s.part.set i v } vOp vC (w.setCell ⟨gP,i,none⟩ (.int .i64 v)) :=
 ⟨blk_far h.b (blk_ne h.b h.p (by decide)) _,blk_far h.o h.ne.2.1 _,blk_far h.l h.ne.2.2 _,by rw [blk_set h.p,nums_put],own_setCell h.op (fun e=>(h.ap gP e.symm).2.2 rfl) _,own_setCell h.ca (own_ne h.ca h.p (by decide)) _,h.ap,h.ne,h.bd⟩
theorem SrchOK.setMet (v:Int):SrchOK base gs gO gL gP n g0 g1 g2 g3 g4 { s with met:=v } vOp vC (w.setCell ⟨gs,10,none⟩ (.int .i64 v)) :=
 ⟨by rw [blk_set h.b];rfl,blk_far h.o (blk_ne h.o h.b (by decide)) _,blk_far h.l (blk_ne h.l h.b (by decide)) _,blk_far h.p (blk_ne h.p h.b (by decide)) _,own_setCell h.op (own_ne h.op h.b (by decide)) _,own_setCell h.ca (own_ne h.ca h.b (by decide)) _,h.ap,h.ne,h.bd⟩
theorem SrchOK.setOp {w1:World} {v1:Value} {x:List Int} (ho:w1.ownsRow base 3 1 v1 x.length (nums .i64 x)) (hg:w.grownBy w1 vOp.ownBlock) (hat:v1.ownBlock = vOp.ownBlock ∨ ∃ b,v1.ownBlock = some b∧w.heap.size ≤ b):SrchOK base gs gO gL gP n g0 g1 g2 g3 g4 { s with opn:=x } v1 vC (w1.setCell ⟨gs,8,none⟩ v1):=by
 have hap:∀ k,v1.ownBlock = some k → k ≠ gO∧k ≠ gL∧k ≠ gP:=by
  intro k hk;rcases hat with e|⟨b,e,hb⟩
  ·exact h.ap k (e ▸ hk)
  ·rw [e] at hk;injection hk with hk;have:=blk_lt h.o;have:=blk_lt h.l;have:=blk_lt h.p;omega
 have hb1:=blk_grown h.b hg (own_ne h.op h.b (by decide));have ho1:=blk_grown h.o hg (fun e=>(h.ap gO e.symm).1 rfl);have hl1:=blk_grown h.l hg (fun e=>(h.ap gL e.symm).2.1 rfl);have hp1:=blk_grown h.p hg (fun e=>(h.ap gP e.symm).2.2 rfl);have hc1:w1.ownsRow base 65 2 vC s.calls.length (frCells s.calls):=own_other h.ca hg (by
  cases hv:vOp.ownBlock with
  | none=>cases hc:vC.ownBlock <;> simp
  | some k =>
   obtain ⟨cells,hk⟩:=own_typed h.op k hv;have:=own_ne h.ca hk (by decide)
   exact .inr (fun e=>this e.symm))
 exact ⟨by rw [blk_set hb1];rfl,blk_far ho1 (blk_ne ho1 hb1 (by decide)) _,blk_far hl1 (blk_ne hl1 hb1 (by decide)) _,blk_far hp1 (blk_ne hp1 hb1 (by decide)) _,own_setCell ho (own_ne ho hb1 (by decide)) _,own_setCell hc1 (own_ne hc1 hb1 (by decide)) _,hap,h.ne,h.bd⟩
theorem SrchOK.setC {w1:World} {v1:Value} {x:List (Int × Int)} (ho:w1.ownsRow base 65 2 v1 x.length (frCells x)) (hg:w.grownBy w1 vC.ownBlock):SrchOK base gs gO gL gP n g0 g1 g2 g3 g4 { s with calls:=x } vOp v1 (w1.setCell ⟨gs,9,none⟩ v1):=by
 have hb1:=blk_grown h.b hg (own_ne h.ca h.b (by decide));have ho1:=blk_grown h.o hg (own_ne h.ca h.o (by decide));have hl1:=blk_grown h.l hg (own_ne h.ca h.l (by decide));have hp1:=blk_grown h.p hg (own_ne h.ca h.p (by decide));have hc1:w1.ownsRow base 3 1 vOp s.opn.length (nums .i64 s.opn):=own_other h.op hg (by
  cases hv:vC.ownBlock with
  | none=>cases hc:vOp.ownBlock <;> simp
  | some k =>
   obtain ⟨cells,hk⟩:=own_typed h.ca k hv;have:=own_ne h.op hk (by decide)
   exact .inr (fun e=>this e.symm))
 exact ⟨by rw [blk_set hb1];rfl,blk_far ho1 (blk_ne ho1 hb1 (by decide)) _,blk_far hl1 (blk_ne hl1 hb1 (by decide)) _,blk_far hp1 (blk_ne hp1 hb1 (by decide)) _,own_setCell hc1 (own_ne hc1 hb1 (by decide)) _,own_setCell ho (own_ne ho hb1 (by decide)) _,h.ap,h.ne,h.bd⟩
end
set_option maxHeartbeats 2000000 in
set_option maxRecDepth 100000 in
theorem enter_calls (base gs gO gL gP n:Nat) (g0 g1 g2 g3 g4:Value) (s:Srch) (vOp vC:Value) (w:World) (i:Int) (hS:SrchOK base gs gO gL gP n g0 g1 g2 g3 g4 s vOp vC w) (hsz:base ≤ w.heap.size) (hlo:s.order.length = n) (hll:s.low.length = n) (h0:0 ≤ i) (h1:i < (n:Int)) (hm:0 ≤ s.met∧s.met ≤ 1000000) (hop:s.opn.length ≤ 1000000) (hca:s.calls.length ≤ 1000000) :
  Calls Try.prog 28 #[.pointer (some ⟨gs,0,none⟩),.int .i64 i] w fun e w'=>e = .returned (.tuple #[])∧Below base w w'∧∃ vOp' vC',SrchOK base gs gO gL gP n g0 g1 g2 g3 g4 (enterS s i) vOp' vC' w':=by
 have k10:w.cell? ⟨gs,10,none⟩ = some (.int .i64 s.met):=zI hS.b 10;have z10:w.frozen? ⟨gs,10,none⟩ = false:=zJ hS.b 10;have e1:IntKind.i64.wrap (s.met + 1) = s.met + 1:=by rw [IntKind.wrap_i64];omega
 have HS:=zA hS;have HM:=zA hm;have HOP:=zA hop;have HCA:=zA hca;have HSZ:=zA hsz;have p0:(0 ≤ i) = True:=qT h0;have q1:decide (i < (n:Int)) = true:=zQ h1;have q2:(i < (n:Int)) = True:=qT h1;clear hS hm hop hca hsz h0;go_enter Try.func28,Try.ntmps28;go_upto_region 1 with fail;have HS1:=zA (HS.out.setMet (s.met + 1));have HB1:=zA ((Below.refl base w).setCell HS.out.bd.1 (p:=⟨gs,10,none⟩) (.int .i64 (s.met + 1)));obtain ⟨w1,hw1⟩:∃ w1,w1 = w.setCell ⟨gs,10,none⟩ (.int .i64 (s.met + 1)):=⟨_,rfl⟩;rw [← hw1] at HS1 HB1 ⊢;clear hw1 k10 z10 e1 HS;have k5:w1.cell? ⟨gs,5,none⟩ = some (.slice (some ⟨gO,0,none⟩) n n):=zI HS1.out.b 5;have k6:w1.cell? ⟨gs,6,none⟩ = some (.slice (some ⟨gL,0,none⟩) n n):=zI HS1.out.b 6;have k10:w1.cell? ⟨gs,10,none⟩ = some (.int .i64 (s.met + 1)):=zI HS1.out.b 10;have yO:w1.frozen? ⟨gO,i.toNat,none⟩ = false:=zJ HS1.out.o _;have yL:w1.frozen? ⟨gL,i.toNat,none⟩ = false:=zJ HS1.out.l _;have kO:=nums_cell HS1.out.o i (of_eq_true p0) (by have e:s.order.length = n:=hlo;show i < ((s.order.length:Nat):Int);omega);have kL:=nums_cell HS1.out.l i (of_eq_true p0) (by have e:s.low.length = n:=hll;show i < ((s.low.length:Nat):Int);omega);have hA:=HS1.out.setO i.toNat (s.met + 1);have hB:=HS1.out.setL i.toNat (s.met + 1);have kA:=nums_cell hA.l i (of_eq_true p0) (by have e:s.low.length = n:=hll;show i < ((s.low.length:Nat):Int);omega);have kB:=nums_cell hB.o i (of_eq_true p0) (by have e:s.order.length = n:=hlo;show i < ((s.order.length:Nat):Int);omega);have kA5:(w1.setCell ⟨gO,i.toNat,none⟩ (.int .i64 (s.met + 1))).cell? ⟨gs,5,none⟩ = some (.slice (some ⟨gO,0,none⟩) n n):=zI hA.b 5;have kA6:(w1.setCell ⟨gO,i.toNat,none⟩ (.int .i64 (s.met + 1))).cell? ⟨gs,6,none⟩ = some (.slice (some ⟨gL,0,none⟩) n n):=zI hA.b 6;have kA10:(w1.setCell ⟨gO,i.toNat,none⟩ (.int .i64 (s.met + 1))).cell? ⟨gs,10,none⟩ = some (.int .i64 (s.met + 1)):=zI hA.b 10;have kB5:(w1.setCell ⟨gL,i.toNat,none⟩ (.int .i64 (s.met + 1))).cell? ⟨gs,5,none⟩ = some (.slice (some ⟨gO,0,none⟩) n n):=zI hB.b 5;have kB6:(w1.setCell ⟨gL,i.toNat,none⟩ (.int .i64 (s.met + 1))).cell? ⟨gs,6,none⟩ = some (.slice (some ⟨gL,0,none⟩) n n):=zI hB.b 6;have kB10:(w1.setCell ⟨gL,i.toNat,none⟩ (.int .i64 (s.met + 1))).cell? ⟨gs,10,none⟩ = some (.int .i64 (s.met + 1)):=zI hB.b 10;have yA:(w1.setCell ⟨gO,i.toNat,none⟩ (.int .i64 (s.met + 1))).frozen? ⟨gL,i.toNat,none⟩ = false:=zJ hA.l _;have yB:(w1.setCell ⟨gL,i.toNat,none⟩ (.int .i64 (s.met + 1))).frozen? ⟨gO,i.toNat,none⟩ = false:=zJ hB.o _;go_region;have HS2:=zA (hA.setL i.toNat (s.met + 1)).drew;have HB2:=zA (((HB1.out.setCell HS1.out.bd.2.1 (p:=⟨gO,i.toNat,none⟩) (.int .i64 (s.met + 1))).setCell HS1.out.bd.2.2.1 (p:=⟨gL,i.toNat,none⟩) (.int .i64 (s.met + 1))).drew);obtain ⟨w2,hw2⟩:∃ w2,w2 = ((w1.setCell ⟨gO,i.toNat,none⟩ (.int .i64 (s.met + 1))).setCell ⟨gL,i.toNat,none⟩ (.int .i64 (s.met + 1))).drew:=⟨_,rfl⟩;rw [← hw2] at HS2 HB2 ⊢;clear hw2 k5 k6 k10 kO kL yO yL hA hB kA kB kA5 kA6 kA10 kB5 kB6 kB10 yA yB HS1 HB1 q1 q2 h1;have k8:w2.cell? ⟨gs,8,none⟩ = some vOp:=zI HS2.out.b 8;go_upto_region 3 with (first|(at_builtin;refine print_append_cells (w0:=w) (W:=w2) base rfl (.tmp 35) (.tmp 37) 24 3 (.int .i64 0) 1 8 rfl Try.underlying24 info3 rfl (by decide) (by decide) vOp s.opn.length (nums .i64 s.opn) [.int .i64 i] rfl rfl rfl (by simp [Value.oneCell']) HS2.out.op HB2.out (Nat.le_trans HSZ.out HB2.out.size) (qo HOP) ?_;intro v3 w3 ho hb hg hat;obtain ⟨A3,c3,rfl⟩:=own_slice ho;have HO3:=zA ho;have HB3:=zA hb;have HG3:=zA hg;have HA3:=zA hat;have k83:w3.cell? ⟨gs,8,none⟩ = some vOp:=zI (blk_grown HS2.out.b hg (own_ne HS2.out.op HS2.out.b (by decide))) 8;have z83:w3.frozen? ⟨gs,8,none⟩ = false:=zJ (blk_grown HS2.out.b hg (own_ne HS2.out.op HS2.out.b (by decide))) 8;clear ho hb hg hat));have HS4:=zA (HS2.out.setOp (x:=s.opn ++ [i]) (by have:=HO3.out;rw [List.length_append,List.length_singleton];simpa [nums] using this) HG3.out HA3.out);have HB4:=zA (HB3.out.setCell HS2.out.bd.1 (p:=⟨gs,8,none⟩) (.slice A3 (s.opn.length + 1) c3));obtain ⟨w4,hw4⟩:∃ w4,w4 = w3.setCell ⟨gs,8,none⟩ (.slice A3 (s.opn.length + 1) c3):=⟨_,rfl⟩;rw [← hw4] at HS4 HB4 ⊢;clear hw4 k8 k83 z83 HO3 HB3 HG3 HA3 HS2 HB2;have k9:w4.cell? ⟨gs,9,none⟩ = some vC:=zI HS4.out.b 9;go_wp2_with (first|(at_builtin;refine print_append_cells (w0:=w) (W:=w4) base rfl (.tmp 45) (.tmp 48) 56 65 (.agg #[.int .i64 0,.int .i64 0]) 2 16 rfl Try.underlying56 info65 rfl (by decide) (by decide) vC s.calls.length (frCells s.calls) [.int .i64 i,.int .i64 0] rfl rfl rfl (by simp [Value.oneCell']) HS4.out.ca HB4.out (Nat.le_trans HSZ.out HB4.out.size) (qo HCA) ?_;intro v5 w5 ho hb hg hat;obtain ⟨A5,c5,rfl⟩:=own_slice ho;have HO5:=zA ho;have HB5:=zA hb;have HG5:=zA hg;have k95:w5.cell? ⟨gs,9,none⟩ = some vC:=zI (blk_grown HS4.out.b hg (own_ne HS4.out.ca HS4.out.b (by decide))) 9;have z95:w5.frozen? ⟨gs,9,none⟩ = false:=zJ (blk_grown HS4.out.b hg (own_ne HS4.out.ca HS4.out.b (by decide))) 9;clear ho hb hg hat));go_end0;refine ⟨rfl,HB5.out.setCell HS4.out.bd.1 _,_,_,HS4.out.setC (x:=s.calls ++ [(i,0)]) (by have:=HO5.out;rw [List.length_append,List.length_singleton,frCells_append];exact this) HG5.out⟩
theorem SrchOK.ext {base gs gO gL gP n:Nat} {g0 g1 g2 g3 g4:Value} {s s':Srch} {vOp vC:Value} {w:World} (h:SrchOK base gs gO gL gP n g0 g1 g2 g3 g4 s vOp vC w) (e:s = s'):SrchOK base gs gO gL gP n g0 g1 g2 g3 g4 s' vOp vC w:=e ▸ h
theorem lowUp_len (low:List Int) (calls:List (Int × Int)) (i:Int):(lowUp low calls i).length = low.length:=by
 unfold lowUp;split
 ·rfl
 ·rw [List.length_set]
theorem rd_getD (l:List Int) (i:Nat):rd l (i:Int) = l.getD i 0:=by unfold rd;rw [Int.toNat_natCast]
theorem foldl_len (m:Int) (l:List Int):∀ p:List Int,(l.foldl (fun p k=>p.set k.toNat m) p).length = p.length:=by
 induction l with
 | nil=>exact fun p=>rfl
 | cons a l ih=>intro p;rw [List.foldl_cons,ih,List.length_set]
theorem safe_parts {next:List (List Int)} {n:Nat} {s:Srch} (h:safeS next n s = true):(s.order.length = n∧s.low.length = n∧s.part.length = n∧0 ≤ s.met∧s.met ≤ (n:Int)∧s.opn.length ≤ n∧s.calls.length ≤ n)∧(∀ x ∈ s.opn,0 ≤ x∧x < (n:Int))∧(∀ c ∈ s.calls,0 ≤ c.1∧c.1 < (n:Int)∧c.1 ∈ s.opn∧0 ≤ c.2∧c.2 ≤ ((zAE next c.1).length:Int)):=by
 unfold safeS at h;rw [Bool.and_eq_true,Bool.and_eq_true] at h;exact ⟨zP h.1.1,fun x hx=>zP (List.all_eq_true.1 h.1.2 x hx),fun c hc=>zP (List.all_eq_true.1 h.2 c hc)⟩
set_option maxHeartbeats 4000000 in
set_option maxRecDepth 100000 in
theorem leave_calls (base gs gO gL gP n:Nat) (g0 g1 g2 g3 g4:Value) (s:Srch) (vOp vC:Value) (w:World) (next:List (List Int)) (cl:List (Int × Int)) (a j:Int) (hS:SrchOK base gs gO gL gP n g0 g1 g2 g3 g4 s vOp vC w) (hsz:base ≤ w.heap.size) (hs:safeS next n s = true) (hcl:s.calls = cl ++ [(a,j)]) (hn:n ≤ 20000) :
  Calls Try.prog 34 #[.pointer (some ⟨gs,0,none⟩),.int .i64 a] w fun e w'=>e = .returned (.tuple #[])∧Below base w w'∧∃ vOp' vC',SrchOK base gs gO gL gP n g0 g1 g2 g3 g4 (leaveS s a) vOp' vC' w':=by
 obtain ⟨⟨l1,l2,l3,m0,m1,l4,l5⟩,hO,hC⟩:=safe_parts hs;have hca:=hS.ca;rw [hcl] at hca;have hlen:(cl ++ [(a,j)]).length = cl.length + 1:=by simp
 rw [hlen] at hca;rw [hcl,hlen] at l5;obtain ⟨gC,cC,rfl,hgC,_⟩:=hca.form (by omega);have hcut0:=own_take hca (show cl.length ≤ cl.length + 1 by omega);rw [frCells_take] at hcut0;have HS1:=zA (hS.setC (w1:=w) (x:=cl) hcut0 (World.grownBy.refl w _)).drew;have HB1:=zA (((Below.refl base w).setCell hS.bd.1 (p:=⟨gs,9,none⟩) (.slice (some ⟨gC,0,none⟩) cl.length cC)).drew);have k9:w.cell? ⟨gs,9,none⟩ = some (.slice (some ⟨gC,0,none⟩) (cl.length + 1) cC):=zI hS.b 9;have z9:w.frozen? ⟨gs,9,none⟩ = false:=zJ hS.b 9;have e1:IntKind.i64.wrap (((cl.length + 1:Nat):Int) - 1) = (cl.length:Int):=by rw [IntKind.wrap_i64];omega
 have e2:IntKind.i64.wrap (cl.length:Int) = (cl.length:Int):=by rw [IntKind.wrap_i64];omega
 obtain ⟨i0,hi0,hz0,hz1,hz2⟩:=info_parts info65;have hcut:=cut_to (P:=Try.prog) 56 65 .i64 Try.underlying56 hi0 (some ⟨gC,0,none⟩) (cl.length + 1) cC (cl.length:Int) (by omega) (by omega) (own_le hca);rw [Int.toNat_natCast] at hcut;have ha:=hC (a,j) (by rw [hcl];simp);have HA:=zA ha;have HOP:=zA hO;have HCL:=zA (show ∀ c ∈ cl,0 ≤ c.1∧c.1 < (n:Int) from fun c hc=>⟨(hC c (by rw [hcl];exact List.mem_append_left _ hc)).1,(hC c (by rw [hcl];exact List.mem_append_left _ hc)).2.1⟩);have HL:=zA (show s.order.length = n∧s.low.length = n∧s.part.length = n∧s.opn.length ≤ n from ⟨l1,l2,l3,l4⟩);have HE:=zA hcl;have HC5:=zA l5;have HN:=zA hn;have HSZ:=zA hsz;clear hi0 hz0 hz1 hz2 hS hca hcut0 hs hO hC l1 l2 l3 l4 l5 m0 m1 ha hcl hn hgC hlen hsz;go_enter Try.func34,Try.ntmps34;go_wp2;go_region;clear k9 z9 e1 e2 hcut;obtain ⟨w1,hw1⟩:∃ w1,w1 = (w.setCell ⟨gs,9,none⟩ (.slice (some ⟨gC,0,none⟩) cl.length cC)).drew:=⟨_,rfl⟩;rw [← hw1] at HS1 HB1 ⊢;clear hw1;have k9:w1.cell? ⟨gs,9,none⟩ = some (.slice (some ⟨gC,0,none⟩) cl.length cC):=zI HS1.out.b 9;go_upto_if 30 with fail;go_cut [] (fun wc=>Aside0 (SrchOK base gs gO gL gP n g0 g1 g2 g3 g4 { s with calls:=cl,low:=lowUp s.low cl a } vOp (.slice (some ⟨gC,0,none⟩) cl.length cC) wc)∧Aside0 (Below base w wc))
 case first =>
  rcases List.eq_nil_or_concat cl with e|⟨cl',⟨u,ju⟩,e⟩
  ·have q1:decide (0 < cl.length) = false:=zR (by rw [e];simp);have HSX:=zA (HS1.out.ext (s':={ s with calls:=cl,low:=lowUp s.low cl a }) (by rw [e];rfl));clear e HS1;rw [q1];go_wp2;go_meet
   case rel=>exact ⟨HSX,HB1⟩
  ·rw [List.concat_eq_append] at e;have hm:cl.length = cl'.length + 1:=by rw [e];simp
   have hu:=HCL.out (u,ju) (by rw [e];simp);have k0:w1.cell? ⟨gC,cl'.length * 2,none⟩ = some (.int .i64 u):=by
    rw [HS1.out.ca.cellAt _ (by show _ < cl.length * 2;omega)];show (frCells cl)[cl'.length * 2]? = _;rw [e];exact frCells_at0 cl' (u,ju)
   obtain ⟨m,hmm⟩:∃ m,m = cl'.length:=⟨_,rfl⟩;rw [← hmm] at hm k0;have q1:decide (0 < cl.length) = true:=zQ (by omega);rw [hm] at k9;have HS2:=zA ((HS1.out.setL u.toNat (min (rd s.low u) (rd s.low a))).drew.ext (s':={ s with calls:=cl,low:=lowUp s.low cl a }) (by rw [e];unfold lowUp;simp));have HM:=zA (show m < 20000 by have:=HC5.out;have:=HN.out;omega);have e1:IntKind.i64.wrap (((m + 1:Nat):Int) - 1) = (m:Int):=by rw [IntKind.wrap_i64];have:=HM.out;omega
   have e2:IntKind.i64.wrap (m:Int) = (m:Int):=by rw [IntKind.wrap_i64];have:=HM.out;omega
   have hp1:(0 ≤ (m:Int)) = True:=qT (by omega);have hq1:decide ((m:Int) < ((m + 1:Nat):Int)) = true:=zQ (by omega);have k6:w1.cell? ⟨gs,6,none⟩ = some (.slice (some ⟨gL,0,none⟩) n n):=zI HS1.out.b 6;have p1:(0 ≤ u) = True:=qT hu.1;have p2:(u < (n:Int)) = True:=qT hu.2;have p3:(0 ≤ a) = True:=qT HA.out.1;have p4:(a < (n:Int)) = True:=qT HA.out.2.1;have kU:=nums_cell HS1.out.l u hu.1 (by have:=HL.out.2.1;show u < ((s.low.length:Nat):Int);omega);have kA:=nums_cell HS1.out.l a HA.out.1 (by have:=HL.out.2.1;have:=HA.out.2.1;show a < ((s.low.length:Nat):Int);omega);have zU:w1.frozen? ⟨gL,u.toNat,none⟩ = false:=zJ HS1.out.l _;clear hm hu hmm e;rw [q1];go_wp2;go_region;go_wp2;go_region;have emin:(if rd s.low a < rd s.low u then rd s.low a else rd s.low u) = min (rd s.low u) (rd s.low a):=by split <;> omega
   rw [emin];have HBX:=zA ((HB1.out.setCell HS1.out.bd.2.2.1 (p:=⟨gL,u.toNat,none⟩) (.int .i64 (min (rd s.low u) (rd s.low a)))).drew.drew);go_wp2;go_meet
   case rel=>exact ⟨⟨HS2.out.drew⟩,HBX⟩
 case rest =>
  clear HS1 HB1 k9;obtain ⟨HSX,HBX⟩:=hcut;obtain ⟨w2,hw2⟩:∃ w2,w2 = wc:=⟨_,rfl⟩;rw [← hw2] at HSX HBX ⊢;clear hw2;have hdl:s.calls.dropLast = cl:=by rw [HE.out];simp
  obtain ⟨low2,hlow⟩:∃ low2,low2 = lowUp s.low cl a:=⟨_,rfl⟩;have hlv:leaveS s a = (if rd low2 a = rd s.order a then { s with calls:=cl,low:=low2,part:=(segS s.opn a).foldl (fun p k=>p.set k.toNat ((segS s.opn a).foldl min a)) s.part,opn:=s.opn.take (s.opn.length - (segS s.opn a).length) } else { s with calls:=cl,low:=low2 }):=by
   unfold leaveS;rw [hdl,← hlow]
  have hll:low2.length = n:=by rw [hlow,lowUp_len];exact HL.out.2.1
  rw [← hlow] at HSX;have HLV:=zA hlv;clear hdl hlow hlv;have p3:(0 ≤ a) = True:=qT HA.out.1;have p4:(a < (n:Int)) = True:=qT HA.out.2.1;have k5:w2.cell? ⟨gs,5,none⟩ = some (.slice (some ⟨gO,0,none⟩) n n):=zI HSX.out.b 5;have k6:w2.cell? ⟨gs,6,none⟩ = some (.slice (some ⟨gL,0,none⟩) n n):=zI HSX.out.b 6;have kO:=nums_cell HSX.out.o a HA.out.1 (by have:=HL.out.1;have:=HA.out.2.1;show a < ((s.order.length:Nat):Int);omega);have kL:=nums_cell HSX.out.l a HA.out.1 (by have:=HA.out.2.1;show a < ((low2.length:Nat):Int);omega);dsimp only at kO kL;by_cases g:rd low2 a = rd s.order a
  case neg =>
   have q2:(rd low2 a != rd s.order a) = true:=bne_iff_ne.2 g;have h:=HLV.out;rw [if_neg g] at h;have HLE:=zA h;clear hll g h;go_wp2;go_region;go_wp2;(try simp only [Exit.inBlock,Exit.then]);refine bodyPost_ret (results_none rfl _ _ _) rfl ?_;exact ⟨rfl,HBX.out.drew,_,_,HSX.out.drew.ext HLE.out.symm⟩
  have q2:(rd low2 a != rd s.order a) = false:=bne_eq_false_iff_eq.2 g;have h:=HLV.out;rw [if_pos g] at h;have HLE:=zA h;clear HLV h g hll;go_wp2;go_region;go_upto_region 5 with fail;clear p3 p4 k5 k6 kO kL q2;have HS3:=zA HSX.out.drew;have HB3:=zA HBX.out.drew;obtain ⟨w3,hw3⟩:∃ w3,w3 = w2.drew:=⟨_,rfl⟩;rw [← hw3] at HS3 HB3 ⊢;clear hw3 HSX HBX;obtain ⟨q,hq1,hq2,hq3,hq4,hq5⟩:=Go.Proofs.Ytkcghbfmigdomaa.Pure.seg_facts s.opn a HA.out.2.2.1;obtain ⟨gQ,cQ,ev,_⟩:=HS3.out.op.form (show 0 < s.opn.length by omega);subst ev;obtain ⟨L,hL⟩:∃ L,s.opn.length = L:=⟨_,rfl⟩;have hop:w3.ownsRow base 3 1 (.slice (some ⟨gQ,0,none⟩) s.opn.length cQ) s.opn.length (nums .i64 s.opn):=HS3.out.op;have hcap:s.opn.length ≤ cQ:=own_le hop;have HGet:=zA (show ∀ (W:World),W.ownsRow base 3 1 (.slice (some ⟨gQ,0,none⟩) s.opn.length cQ) s.opn.length (nums .i64 s.opn) → ∀ i:Nat,i < s.opn.length → W.cell? ⟨gQ,i,none⟩ = some (.int .i64 (rd s.opn (i:Int))) from fun W hW i hi=>by
   rw [hW.cellAt i (by omega)]
   simp [nums,rd,hi])
  obtain ⟨i0,hi0,hz0,hz1,hz2⟩:=info_parts info3;obtain ⟨seg,hseg⟩:∃ seg,seg = segS s.opn a:=⟨_,rfl⟩;rw [← hseg] at hq1 hq5;have hcutf:∀ W:World,(Instr.slice 24 (.slice (some ⟨gQ,0,none⟩) L cQ) (some (.int .i64 (q:Int))) none none).run Try.prog W = .ok (.slice (some ⟨gQ,q,none⟩) seg.length (cQ - q)) W:=by
   intro W;have:=cut_from (P:=Try.prog) 24 3 .i64 Try.underlying24 hi0 1 hz1 (some ⟨gQ,0,none⟩) L cQ (q:Int) (by omega) (by omega) W;rw [Int.toNat_natCast,if_neg (by omega),show L - q = seg.length by omega] at this;have ea:(⟨gQ,0,none⟩:Addr).add (q * 1) = ⟨gQ,q,none⟩:=by
    rw [Nat.mul_one];rcases Nat.eq_zero_or_pos q with h0|h0
    ·rw [h0];rfl
    ·simp [Addr.add,Nat.ne_of_gt h0]
   rw [Option.map_some,ea] at this;exact this
  have hcutt:=cut_to (P:=Try.prog) 24 3 .i64 Try.underlying24 hi0 (some ⟨gQ,0,none⟩) L cQ (q:Int) (by omega) (by omega) (by omega);rw [Int.toNat_natCast] at hcutt;have HCF:=zA hcutf;have HCT:=zA hcutt;have HQ:=zA (show q + seg.length = L∧q < L∧L ≤ 20000 by have:=HL.out;have:=HN.out;omega);have HQ3:=zA hq3;have HQ4:=zA hq4;have HQ5:=zA hq5;have HLL:=zA hL;have HSEG:=zA hseg;have k8:w3.cell? ⟨gs,8,none⟩ = some (.slice (some ⟨gQ,0,none⟩) L cQ):=by rw [← hL];exact zI HS3.out.b 8
  have e1:IntKind.i64.wrap ((L:Int) - 1) = ((L - 1:Nat):Int):=by rw [IntKind.wrap_i64];have:=HQ.out;omega
  clear hop hcap hi0 hz0 hz1 hz2 hcutf hcutt hq1 hq2 hq3 hq4 hq5 hL hseg;go_wp2;clear e1;go_loop [5] (fun t5=>∃ i:Nat,t5 = .int .i64 (i:Int)∧Aside0 (q ≤ i∧i < L)) (fun t5=>(intOf t5).toNat)
  case atStart=>exact ⟨L - 1,rfl,⟨qo HQ,qo HQ⟩⟩
  case round =>
   obtain ⟨i,rfl,HI⟩:=hrel;have y:=HGet.out w3 HS3.out.op i (qp HI HLL);have hp:(0 ≤ (i:Int)) = True:=qT (by omega);have hd:decide ((i:Int) < (L:Int)) = true:=zQ (qo HI);have hd2:((i:Int) < (L:Int)) = True:=qT (qo HI);have hd3:(i < L) = True:=qT (qo HI);have hd4:decide (i < L) = true:=zQ (qo HI);by_cases hiq:i = q
   case neg =>
    have q6:(rd s.opn (i:Int) != a) = true:=bne_iff_ne.2 (HQ4.out i (qo HI) (qp HI HLL));have e1:IntKind.i64.wrap ((i:Int) - 1) = ((i - 1:Nat):Int):=by rw [IntKind.wrap_i64];have:=HI.out;have:=HQ.out;omega
    have HI2:=zA (show q ≤ i - 1∧i - 1 < L∧i - 1 < i by have:=HI.out;omega);clear hiq;go_wp2;go_round
    case rel=>exact ⟨i - 1,rfl,⟨HI2.out.1,HI2.out.2.1⟩⟩
    case measure=>have:=HI2.out.2.2;simp [intOf];omega
   subst hiq;have q6:(rd s.opn (i:Int) != a) = false:=bne_eq_false_iff_eq.2 HQ3.out;have hc1:=HCF.out;go_wp2;clear y hp hd hd2 hd3 hd4 q6 hc1;have HI3:=zA (show i + seg.length = L∧L ≤ 20000 by have:=HQ.out;omega);have HSget:=zA (show ∀ t:Nat,t < seg.length → rd s.opn ((i + t:Nat):Int) = seg.getD t 0 from fun t ht=>by
    rw [rd_getD,← HQ5.out,List.getD_eq_getElem?_getD,List.getD_eq_getElem?_getD,List.getElem?_drop])
   go_loop [6,105] (fun t6 t105=>∃ t:Nat,t105 = .int .i64 (t:Int)∧t6 = .int .i64 ((seg.take t).foldl min a)∧Aside0 (t ≤ seg.length)) (fun t6 t105=>seg.length - (intOf t105).toNat)
   case atStart=>exact ⟨0,rfl,rfl,⟨Nat.zero_le _⟩⟩
   case round =>
    obtain ⟨t,rfl,rfl,HT⟩:=hrel;by_cases ht:t < seg.length
    ·have y:=HGet.out w3 HS3.out.op (i + t) (qp HI3 HLL);rw [HSget.out t ht] at y;obtain ⟨x,hx⟩:∃ x,x = seg.getD t 0:=⟨_,rfl⟩;rw [← hx] at y;have hp:(0 ≤ (t:Int)) = True:=qT (by omega);have hd:decide ((t:Int) < (seg.length:Int)) = true:=zQ (by omega);have hd2:((t:Int) < (seg.length:Int)) = True:=qT (by omega);have hd3:(t < seg.length) = True:=qT (by omega);have hd4:decide (t < seg.length) = true:=zQ (by omega);have e1:IntKind.i64.wrap ((t:Int) + 1) = ((t + 1:Nat):Int):=by rw [IntKind.wrap_i64];have:=HI3.out;omega
     have HX:=zA (show (if x < (seg.take t).foldl min a then x else (seg.take t).foldl min a) = (seg.take (t + 1)).foldl min a by
      rw [List.take_succ_eq_append_getElem ht,List.foldl_append,hx,List.getD_eq_getElem?_getD,List.getElem?_eq_getElem ht];show (if seg[t] < _ then seg[t] else _) = min _ seg[t]
      split <;> omega)
     clear hx;go_wp2;rw [HX.out];go_round
     case rel=>exact ⟨t + 1,rfl,rfl,⟨ht⟩⟩
     case measure=>simp [intOf];omega
    ·have hd:decide ((t:Int) < (seg.length:Int)) = false:=zR (by omega);have hd4:decide (t < seg.length) = false:=zR ht;have e:t = seg.length:=by have:=HT.out;omega
     rw [e,List.take_length];have hc1:=HCF.out;clear e ht HT hd hd4;go_wp2;clear hc1 k8;have HS4:=zA (show SrchOK base gs gO gL gP n g0 g1 g2 g3 g4 { s with calls:=cl,low:=low2,part:=(seg.take 0).foldl (fun p k=>p.set k.toNat (seg.foldl min a)) s.part } (.slice (some ⟨gQ,0,none⟩) s.opn.length cQ) (.slice (some ⟨gC,0,none⟩) cl.length cC) w3 from HS3.out);clear HS3;go_loopg [120] (seg.length + 1) (fun kq v120 w'=>∃ t:Nat,v120 = .int .i64 (t:Int)∧Aside0 (kq + t = seg.length + 1)∧Aside0 (SrchOK base gs gO gL gP n g0 g1 g2 g3 g4 { s with calls:=cl,low:=low2,part:=(seg.take t).foldl (fun p k=>p.set k.toNat (seg.foldl min a)) s.part } (.slice (some ⟨gQ,0,none⟩) s.opn.length cQ) (.slice (some ⟨gC,0,none⟩) cl.length cC) w')∧Aside0 (Below base w w'))
     case atStart=>exact ⟨0,rfl,⟨rfl⟩,HS4,HB3⟩
     case round =>
      clear HS4 HB3;obtain ⟨t,rfl,HT,HSp,HBp⟩:=hrel;by_cases ht:t < seg.length
      ·have y:=HGet.out wr HSp.out.op (i + t) (qp HI3 HLL);rw [HSget.out t ht] at y;have hxm:seg.getD t 0 ∈ s.opn:=by
        rw [List.getD_eq_getElem?_getD,List.getElem?_eq_getElem ht];have hm:seg[t] ∈ seg:=List.getElem_mem ht;show seg[t] ∈ s.opn;generalize seg[t] = z at hm ⊢;rw [← HQ5.out] at hm;exact List.mem_of_mem_drop hm
       obtain ⟨x,hx⟩:∃ x,x = seg.getD t 0:=⟨_,rfl⟩;rw [← hx] at y hxm;obtain ⟨x0,x1⟩:=HOP.out x hxm;have hp:(0 ≤ (t:Int)) = True:=qT (by omega);have hd:decide ((t:Int) < (seg.length:Int)) = true:=zQ (by omega);have hd2:((t:Int) < (seg.length:Int)) = True:=qT (by omega);have hd3:(t < seg.length) = True:=qT (by omega);have hd4:decide (t < seg.length) = true:=zQ (by omega);have e1:IntKind.i64.wrap ((t:Int) + 1) = ((t + 1:Nat):Int):=by rw [IntKind.wrap_i64];have:=HI3.out;omega
       have k7:wr.cell? ⟨gs,7,none⟩ = some (.slice (some ⟨gP,0,none⟩) n n):=zI HSp.out.b 7;have p1:(0 ≤ x) = True:=qT x0;have p2:(x < (n:Int)) = True:=qT x1;have kP:=nums_cell HSp.out.p x x0 (by have:=HL.out.2.2.1;show x < ((List.foldl _ s.part (seg.take t)).length:Int);rw [foldl_len];omega);have yP:wr.frozen? ⟨gP,x.toNat,none⟩ = false:=zJ HSp.out.p _;have HSn:=zA ((HSp.out.setP x.toNat (seg.foldl min a)).ext (s':={ s with calls:=cl,low:=low2,part:=(seg.take (t + 1)).foldl (fun p k=>p.set k.toNat (seg.foldl min a)) s.part }) (by rw [List.take_succ_eq_append_getElem ht,List.foldl_append,hx,List.getD_eq_getElem?_getD,List.getElem?_eq_getElem ht];rfl));have HBn:=zA (HBp.out.setCell HSp.out.bd.2.2.2 (p:=⟨gP,x.toNat,none⟩) (.int .i64 (seg.foldl min a)));have HTn:=zA (show seg.length - t + (t + 1) = seg.length + 1∧seg.length - t < gk by have:=HT.out;omega);clear hx hxm x0 x1 HSp HBp ht;go_wp2;go_roundg (seg.length - t)
       case measure=>exact HTn.out.2
       case rel=>exact ⟨t + 1,rfl,⟨HTn.out.1⟩,HSn,HBn⟩
      ·have hd:decide ((t:Int) < (seg.length:Int)) = false:=zR (by omega);have hd4:decide (t < seg.length) = false:=zR ht;have k8:wr.cell? ⟨gs,8,none⟩ = some (.slice (some ⟨gQ,0,none⟩) L cQ):=by rw [← HLL.out];exact zI HSp.out.b 8
       have z8:wr.frozen? ⟨gs,8,none⟩ = false:=zJ HSp.out.b 8;have hc2:=HCT.out;have hop:=own_take HSp.out.op (show i ≤ s.opn.length by have:=HI3.out;have:=HLL.out;omega);have HSn:=zA ((HSp.out.setOp (w1:=wr) (x:=s.opn.take i) (v1:=.slice (some ⟨gQ,0,none⟩) i cQ) (by
        have e:(s.opn.take i).length = i:=by rw [zt];have:=HI3.out;have:=HLL.out;omega
        rw [e];have e2:nums .i64 (s.opn.take i) = (nums .i64 s.opn).take (i * 1):=by rw [Nat.mul_one];simp [nums,List.map_take]
        rw [e2]
        exact hop) (World.grownBy.refl wr _) (.inl rfl)).ext (s':=leaveS s a) (by
        rw [HLE.out,← HSEG.out,List.take_of_length_le (show seg.length ≤ t by omega)];have e:s.opn.length - seg.length = i:=by have:=HI3.out;have:=HLL.out;omega
        rw [e]))
       have HBn:=zA (HBp.out.setCell HSp.out.bd.1 (p:=⟨gs,8,none⟩) (.slice (some ⟨gQ,0,none⟩) i cQ));clear ht hop HSp HBp;go_wp2;go_end0;exact ⟨rfl,HBn.out,_,_,HSn.out⟩
theorem SrchOK.setFrame {base gs gO gL gP n:Nat} {g0 g1 g2 g3 g4:Value} {s:Srch} {vOp:Value} {gC cC:Nat} {w:World} {cl:List (Int × Int)} {a j:Int} (h:SrchOK base gs gO gL gP n g0 g1 g2 g3 g4 s vOp (.slice (some ⟨gC,0,none⟩) (cl.length + 1) cC) w) (hcl:s.calls = cl ++ [(a,j)]) (_:(0:Nat) = 0) (j':Int):SrchOK base gs gO gL gP n g0 g1 g2 g3 g4 { s with calls:=cl ++ [(a,j')] } vOp (.slice (some ⟨gC,0,none⟩) (cl.length + 1) cC) (w.setCell ⟨gC,cl.length * 2 + 1,none⟩ (.int .i64 j')):=by
 have hca:=h.ca;have hlen:(cl ++ [(a,j)]).length = cl.length + 1:=by simp
 have hlen':(cl ++ [(a,j')]).length = cl.length + 1:=by simp
 rw [hcl,hlen] at hca;have hst:=(hca.stored (cl.length * 2 + 1) (.int .i64 j')).1;rw [frCells_set] at hst;have nb:gs ≠ gC:=fun e=>own_ne hca h.b (by decide) (by rw [e];rfl);have no:gO ≠ gC:=fun e=>own_ne hca h.o (by decide) (by rw [e];rfl);have nl:gL ≠ gC:=fun e=>own_ne hca h.l (by decide) (by rw [e];rfl);have np:gP ≠ gC:=fun e=>own_ne hca h.p (by decide) (by rw [e];rfl);obtain ⟨cells,hk⟩:=own_typed hca gC rfl;exact ⟨blk_far h.b nb _,blk_far h.o no _,blk_far h.l nl _,blk_far h.p np _,own_setCell h.op (own_ne h.op hk (by decide)) _,by rw [hlen'];exact hst,h.ap,h.ne,h.bd⟩
theorem goOn_eq (next:List (List Int)) (s:Srch) (cl:List (Int × Int)) (a j:Int) (hcl:s.calls = cl ++ [(a,j)]):goOnS next s = (if j = ((zAE next a).length:Int) then leaveS s a
  else if rd s.order (rd (zAE next a) j) = 0 then enterS { s with calls:=cl ++ [(a,j + 1)] } (rd (zAE next a) j)
  else if rd s.part (rd (zAE next a) j) < 0 then { s with calls:=cl ++ [(a,j + 1)],low:=s.low.set a.toNat (min (rd s.low a) (rd s.order (rd (zAE next a) j))) }
  else { s with calls:=cl ++ [(a,j + 1)] }):=by
 unfold goOnS;rw [hcl];simp
set_option maxHeartbeats 4000000 in
set_option maxRecDepth 100000 in
theorem goOn_calls (base gs gO gL gP n:Nat) (g0 g1 g3 g4:Value) (A2:Option Addr) (c2:Nat) (next:List (List Int)) (s:Srch) (vOp vC:Value) (w w0:World) (cl:List (Int × Int)) (a j:Int) (hbw:Below base w0 w) (hbs:base = w0.heap.size) (hS:SrchOK base gs gO gL gP n g0 g1 (.slice A2 next.length c2) g3 g4 s vOp vC w) (hR:Kd.C (Kd.slice 3 (Kd.int .i64)) w0 A2 next.length next) (hs:safeS next n s = true) (hcl:s.calls = cl ++ [(a,j)]) (hn:n ≤ 20000) (hnx:next.length = n) (hin:∀ b ∈ zAE next a,0 ≤ b∧b < (n:Int)) (hrl:(zAE next a).length ≤ 4611686018427387904) :
  Calls Try.prog 29 #[.pointer (some ⟨gs,0,none⟩)] w fun e w'=>e = .returned (.tuple #[])∧Below base w w'∧∃ vOp' vC',SrchOK base gs gO gL gP n g0 g1 (.slice A2 next.length c2) g3 g4 (goOnS next s) vOp' vC' w':=by
 have hle:=goOn_eq next s cl a j hcl;obtain ⟨⟨l1,l2,l3,m0,m1,l4,l5⟩,hO,hC⟩:=safe_parts hs;have hca:=hS.ca;rw [hcl] at hca;have hlen:(cl ++ [(a,j)]).length = cl.length + 1:=by simp
 rw [hlen] at hca;obtain ⟨gC,cC,rfl,hgC,_⟩:=hca.form (by omega);have ha:=hC (a,j) (by rw [hcl];simp);have kc0:w.cell? ⟨gC,cl.length * 2,none⟩ = some (.int .i64 a):=by
  rw [hca.cellAt _ (by omega)];exact frCells_at0 cl (a,j)
 have kc1:w.cell? ⟨gC,cl.length * 2 + 1,none⟩ = some (.int .i64 j):=by
  rw [hca.cellAt _ (by omega)];exact frCells_at1 cl (a,j)
 have zc1:w.frozen? ⟨gC,cl.length * 2 + 1,none⟩ = false:=hca.frozenAt _;obtain ⟨ad2,A3,c3,ea2,kr,hl3,hr3⟩:=zAW hR a ha.1 (by have:=ha.2.1;omega);subst ea2;replace kr:=(hbw.cell (by rw [hbs];exact zB w0 _ kr)).trans kr;have k9:w.cell? ⟨gs,9,none⟩ = some (.slice (some ⟨gC,0,none⟩) (cl.length + 1) cC):=zI hS.b 9;have k2:w.cell? ⟨gs,2,none⟩ = some (.slice (some ad2) next.length c2):=zI hS.b 2;have e1:IntKind.i64.wrap (((cl.length + 1:Nat):Int) - 1) = (cl.length:Int):=by rw [IntKind.wrap_i64];rw [hcl,hlen] at l5;omega
 have e2:IntKind.i64.wrap (cl.length:Int) = (cl.length:Int):=by rw [IntKind.wrap_i64];rw [hcl,hlen] at l5;omega
 have hp1:(0 ≤ (cl.length:Int)) = True:=qT (by omega);have hq1:decide ((cl.length:Int) < ((cl.length + 1:Nat):Int)) = true:=zQ (by omega);have p1:(0 ≤ a) = True:=qT ha.1;have p2:(a < (next.length:Int)) = True:=qT (by have:=ha.2.1;omega);have HCG:=zA hgC;have HNX:=zA hnx;have HRL:=zA hrl;have HS:=zA hS;have HSF:=zA hs;have HLE:=zA hle;have HE:=zA hcl;have HR3:=zA hr3;have HBW:=zA hbw;have HBS:=zA hbs;have HN:=zA hn;have HA:=zA ha;have HIN:=zA hin;have HCA:=zA hca;have HL:=zA (show s.order.length = n∧s.low.length = n∧s.part.length = n∧0 ≤ s.met∧s.met ≤ (n:Int)∧s.opn.length ≤ n∧cl.length + 1 ≤ n from ⟨l1,l2,l3,m0,m1,l4,by rw [hcl,hlen] at l5;exact l5⟩);obtain ⟨row,hrow⟩:∃ row,row = zAE next a:=⟨_,rfl⟩;rw [← hrow] at HLE HR3 HIN HA HRL kr;clear hrl hnx hS hs hle hcl hr3 hbw hbs hn ha hin hca l1 l2 l3 l4 l5 m0 m1 hO hC hlen hgC hR hrow hl3;by_cases c1:j = (row.length:Int)
 ·have q1:(j == (row.length:Int)) = true:=beq_iff_eq.2 c1;have h:=HLE.out;rw [if_pos c1] at h;have HLV:=zA (leave_calls base gs gO gL gP n g0 g1 (.slice (some ad2) next.length c2) g3 g4 s vOp _ w.drew.drew next cl a j HS.out.drew.drew (by rw [HBS.out];exact HBW.out.size) HSF.out HE.out HN.out);have HH:=zA h;clear c1 h;go_enter Try.func29,Try.ntmps29;go_wp2;go_region;go_wp2;go_region;go_wp2_with fail;refine HLV.out.mono ?_;rintro e w5 ⟨rfl,hb,vOp',vC',hs⟩;have HB5:=zA ((Below.refl base w).drew.drew.trans hb);have HS5:=zA (hs.ext HH.out.symm);clear hb hs HLV;go_wp2_with fail;(try simp only [Exit.inBlock,Exit.then]);refine bodyPost_ret (results_none rfl _ _ _) rfl ?_;exact ⟨rfl,HB5.out,_,_,HS5.out⟩
 have q1:(j == (row.length:Int)) = false:=beq_eq_false_iff_ne.2 c1;have h:=HLE.out;rw [if_neg c1] at h;have hj1:j < (row.length:Int):=by have:=HA.out.2.2.2.2;omega
 have hj0:0 ≤ j:=HA.out.2.2.2.1;obtain ⟨ad4,ea4,kj⟩:=Kd.at_int HR3.out j hj0 hj1;subst ea4;replace kj:=(HBW.out.cell (by rw [HBS.out];exact zB w0 _ kj)).trans kj;obtain ⟨b0,b1⟩:=HIN.out (rd row j) (by
  have hlt:j.toNat < row.length:=by omega
  have:=rd_getD row j.toNat;rw [Int.toNat_of_nonneg hj0] at this;rw [this,List.getD_eq_getElem?_getD,List.getElem?_eq_getElem hlt]
  exact List.getElem_mem hlt)
 obtain ⟨b,hb⟩:∃ b,b = rd row j:=⟨_,rfl⟩;rw [← hb] at h kj b0 b1;have p5:(0 ≤ j) = True:=qT hj0;have p6:(j < (row.length:Int)) = True:=qT hj1;have p7:decide (j < (row.length:Int)) = true:=zQ hj1;have e3:IntKind.i64.wrap (j + 1) = j + 1:=by rw [IntKind.wrap_i64];have:=HRL.out;omega
 have HH:=zA h;have HB0:=zA b0;have HB1:=zA b1;have HSF2:=zA (HS.out.setFrame HE.out rfl (j + 1)).drew.drew.drew;have HBF2:=zA ((Below.refl base w).setCell HCG.out (p:=⟨gC,cl.length * 2 + 1,none⟩) (.int .i64 (j + 1))).drew.drew.drew;clear hb h hj0 hj1 b0 b1 c1 HLE;go_enter Try.func29,Try.ntmps29;go_wp2;go_region;go_wp2;go_region;go_wp2;go_region;go_upto_region 5 with fail;clear kc0 kc1 zc1 kr k9 k2 e1 e2 hp1 hq1 kj p5 p6 p7 e3 q1;obtain ⟨w4,hw4⟩:∃ w4,w4 = (w.setCell ⟨gC,cl.length * 2 + 1,none⟩ (.int .i64 (j + 1))).drew.drew.drew:=⟨_,rfl⟩;rw [← hw4] at HSF2 HBF2 ⊢;clear hw4;have k5:w4.cell? ⟨gs,5,none⟩ = some (.slice (some ⟨gO,0,none⟩) n n):=zI HSF2.out.b 5;have p8:(0 ≤ b) = True:=qT HB0.out;have p9:(b < (n:Int)) = True:=qT HB1.out;have kB:=nums_cell HSF2.out.o b HB0.out (by have:=HL.out.1;have:=HB1.out;show b < ((s.order.length:Nat):Int);omega);dsimp only at kB;by_cases t2:rd s.order b = 0
 ·have q2:(rd s.order b == 0) = true:=beq_iff_eq.2 t2;have h:=HH.out;rw [if_pos t2] at h;have HH2:=zA h;have hlen2:(cl ++ [(a,j + 1)]).length = cl.length + 1:=by simp
  have HEN:=zA (enter_calls base gs gO gL gP n g0 g1 (.slice (some ad2) next.length c2) g3 g4 { s with calls:=cl ++ [(a,j + 1)] } vOp _ w4 b HSF2.out (by have:=HBF2.out.size;have:=HBW.out.size;rw [HBS.out];omega) HL.out.1 HL.out.2.1 HB0.out HB1.out ⟨HL.out.2.2.2.1,by have:=HL.out;have:=HN.out;show s.met ≤ 1000000;omega⟩ (by have:=HL.out;have:=HN.out;show s.opn.length ≤ 1000000;omega) (by have:=HL.out;have:=HN.out;show (cl ++ [(a,j + 1)]).length ≤ 1000000;omega));clear t2 h hlen2;go_wp2_with fail;refine HEN.out.mono ?_;rintro e w5 ⟨rfl,hb,vOp',vC',hs⟩;have HB5:=zA (HBF2.out.trans hb);have HS5:=zA (hs.ext HH2.out.symm);clear hb hs HEN;go_wp2_with fail;go_end0;exact ⟨rfl,HB5.out,_,_,HS5.out⟩
 have q2:(rd s.order b == 0) = false:=beq_eq_false_iff_ne.2 t2;have h:=HH.out;rw [if_neg t2] at h;have k7:w4.cell? ⟨gs,7,none⟩ = some (.slice (some ⟨gP,0,none⟩) n n):=zI HSF2.out.b 7;have kP:=nums_cell HSF2.out.p b HB0.out (by have:=HL.out.2.2.1;have:=HB1.out;show b < ((s.part.length:Nat):Int);omega);dsimp only at kP;by_cases t3:rd s.part b < 0
 ·have q3:decide (rd s.part b < 0) = true:=zQ t3;rw [if_pos t3] at h;have k6:w4.cell? ⟨gs,6,none⟩ = some (.slice (some ⟨gL,0,none⟩) n n):=zI HSF2.out.b 6;have kc0:w4.cell? ⟨gC,cl.length * 2,none⟩ = some (.int .i64 a):=by
   have:=HSF2.out.ca;dsimp only at this;have hlen2:(cl ++ [(a,j + 1)]).length = cl.length + 1:=by simp
   rw [hlen2] at this;rw [this.cellAt _ (by omega)];exact frCells_at0 cl (a,j + 1)
  have kA:=nums_cell HSF2.out.l a HA.out.1 (by have:=HL.out.2.1;have:=HA.out.2.1;show a < ((s.low.length:Nat):Int);omega);dsimp only at kA;have yA:w4.frozen? ⟨gL,a.toNat,none⟩ = false:=zJ HSF2.out.l _;have p10:(a < (n:Int)) = True:=qT HA.out.2.1;have HS5:=zA ((HSF2.out.setL a.toNat (min (rd s.low a) (rd s.order b))).drew.ext h.symm);have HB5:=zA (HBF2.out.setCell HSF2.out.bd.2.2.1 (p:=⟨gL,a.toNat,none⟩) (.int .i64 (min (rd s.low a) (rd s.order b)))).drew;have emin:(if rd s.order b < rd s.low a then rd s.order b else rd s.low a) = min (rd s.low a) (rd s.order b):=by split <;> omega
  have HEM:=zA emin;clear t2 t3 h emin;go_wp2;go_still_tail 27,(by kernel_rfl);(repeat still_step);(try refine wpStill_nil ?_);change wpList _ _ _ _ _ w4.drew;go_wp2;all_goals
   rename_i hlt;have hS:=HS5.out;have hB:=HB5.out;go_end0;first
   | (rw [show min (rd s.low a) (rd s.order b) = rd s.order b by omega] at hS hB;exact ⟨rfl,hB,_,_,hS⟩)
   | (rw [show min (rd s.low a) (rd s.order b) = rd s.low a by omega] at hS hB;exact ⟨rfl,hB,_,_,hS⟩)
 ·have q3:decide (rd s.part b < 0) = false:=zR t3;rw [if_neg t3] at h;have HS5:=zA (HSF2.out.ext h.symm);clear t2 t3 h;go_wp2;go_end0;exact ⟨rfl,HBF2.out,_,_,HS5.out⟩
theorem start_ok {base L gO gL gP gs:Nat} {w3:World} {g0 g1 g2 g3 g4:Value} (hs:gs = w3.heap.size) (hO:w3.heap[gO]? = some (.cells (nums .i64 (List.replicate L 0)).toArray 3 (0,0))) (hL:w3.heap[gL]? = some (.cells (nums .i64 (List.replicate L 0)).toArray 3 (0,0))) (hP:w3.heap[gP]? = some (.cells (nums .i64 (List.replicate L 0)).toArray 3 (0,0))) (ne:gO ≠ gL∧gO ≠ gP∧gL ≠ gP) (bd:base ≤ gs∧base ≤ gO∧base ≤ gL∧base ≤ gP) :
  SrchOK base gs gO gL gP L g0 g1 g2 g3 g4 ⟨List.replicate L 0,List.replicate L 0,List.replicate L 0,[],[],0⟩ (.slice none 0 0) (.slice none 0 0) (w3.alloc (.cells #[g0,g1,g2,g3,g4,.slice (some ⟨gO,0,none⟩) L L,.slice (some ⟨gL,0,none⟩) L L,.slice (some ⟨gP,0,none⟩) L L,.slice none 0 0,.slice none 0 0,.int .i64 0] 58)):=by
 subst hs;exact ⟨blk_new _ _,zK hO _,zK hL _,zK hP _,own_nil _ _ _ _,own_nil _ _ _ _,fun k hk=>by simp [Value.ownBlock] at hk,ne,bd⟩
mutual
def zAP.l0:Nat → Srch → Int → Int → List (List Int) → Option (List Int)
 | 0,_,_,_,_=>none
 | k + 1,s,i,n,next=>if i < n then (if 0 ≤ i then (if safeS next n.toNat s = true then (if s.calls.isEmpty = true then zAP.l1 k (if rd s.order i = 0 then enterS s i else s) i n next else none) else none) else none) else (if safeS next n.toNat s = true then some s.part else none)
def zAP.l1:Nat → Srch → Int → Int → List (List Int) → Option (List Int)
 | 0,_,_,_,_=>none
 | k + 1,s,i,n,next=>if safeS next n.toNat s = true then (if s.calls.isEmpty = true then zAP.l0 k s (i + 1) n next else zAP.l1 k (goOnS next s) i n next) else none
end
def rowsOK (n:Nat) (next:List (List Int)):Bool:=decide (next.length = n∧n ≤ 20000) && next.all (fun l=>decide (l.length ≤ 4611686018427387904) && l.all (fun b=>decide (0 ≤ b∧b < (n:Int))))
def zAP.f (k:Nat) (l0_0:List (S63)) (a0_1:Int) (l0_2:List (List Int)) (l0_3:List Int) (a0_4:Int):Option (List Int × Int):=(zAM.f k l0_0 a0_1 l0_2 l0_3 a0_4).bind fun e=>if e = 0 then (if rowsOK l0_0.length l0_2 = true then ((zAP.l0 k ⟨List.replicate l0_0.length 0,List.replicate l0_0.length 0,List.replicate l0_0.length (-1),[],[],0⟩ 0 (l0_0.length:Int) l0_2).bind fun s=>some (s,0)) else none) else some ([],e)
theorem zAP.mono_l:∀ k,(∀ y0 y1 y2 y3,LeO (zAP.l0 k y0 y1 y2 y3) (zAP.l0 (k + 1) y0 y1 y2 y3))∧(∀ y0 y1 y2 y3,LeO (zAP.l1 k y0 y1 y2 y3) (zAP.l1 (k + 1) y0 y1 y2 y3))
 | 0=>⟨fun _ _ _ _ r h=>by simp [zAP.l0] at h,fun _ _ _ _ r h=>by simp [zAP.l1] at h⟩
 | k + 1=>by
  obtain ⟨ih0,ih1⟩:=zAP.mono_l k
  refine ⟨?_,?_⟩
  ·intro y0 y1 y2 y3
   unfold zAP.l0
   exact qL
  ·intro y0 y1 y2 y3
   unfold zAP.l1
   exact qL
theorem zAP.mono:∀ a0 a1 a2 a3 a4 k,LeO (zAP.f k a0 a1 a2 a3 a4) (zAP.f (k + 1) a0 a1 a2 a3 a4):=by
 intro a0 a1 a2 a3 a4 k;obtain ⟨ih0,ih1⟩:=zAP.mono_l k;unfold zAP.f;refine LeO.bind (zAM.mono _ _ _ _ _ k) (fun e=>?_);refine LeO.ite (LeO.ite (LeO.bind (ih0 _ _ _ _) (fun _=>LeO.refl _)) (LeO.none _)) (LeO.refl _)
theorem rows_parts {n:Nat} {next:List (List Int)} (h:rowsOK n next = true):next.length = n∧n ≤ 20000∧∀ a:Int,(zAE next a).length ≤ 4611686018427387904∧∀ b ∈ zAE next a,0 ≤ b∧b < (n:Int):=by
 unfold rowsOK at h;rw [Bool.and_eq_true] at h;obtain ⟨h1,h2⟩:=zP h.1;refine ⟨h1,h2,fun a=>?_⟩;show (next.getD a.toNat []).length ≤ _∧∀ b ∈ next.getD a.toNat [],_;rw [List.getD_eq_getElem?_getD];by_cases c:a.toNat < next.length
 ·rw [List.getElem?_eq_getElem c];have:=List.all_eq_true.1 h.2 _ (List.getElem_mem c);rw [Bool.and_eq_true] at this;exact ⟨zP this.1,fun b hb=>zP (List.all_eq_true.1 this.2 b hb)⟩
 ·rw [List.getElem?_eq_none (by omega)];exact ⟨Nat.zero_le _,fun b hb=>by cases hb⟩
theorem made_rep (n:Nat):madeCells #[Value.int .i64 0] n = (nums .i64 (List.replicate n 0)).toArray:=made_nums n
set_option maxHeartbeats 4000000 in
set_option maxRecDepth 100000 in
theorem zAP.calls (k:Nat) (A0_0:Option Addr) (c0_0:Nat) (l0_0:List (S63)) (a0_1:Int) (A0_2:Option Addr) (c0_2:Nat) (l0_2:List (List Int)) (A0_3:Option Addr) (c0_3:Nat) (l0_3:List Int) (a0_4:Int) (r1:List Int) (r2:Int) (w:World) (hr0_0:Kd.C k63 w A0_0 l0_0.length l0_0) (hc0_0:l0_0.length ≤ c0_0) (hr0_2:Kd.C (Kd.slice 3 (Kd.int .i64)) w A0_2 l0_2.length l0_2) (hc0_2:l0_2.length ≤ c0_2) (hr0_3:Kd.C (Kd.int .i64) w A0_3 l0_3.length l0_3) (hc0_3:l0_3.length ≤ c0_3) (h:zAP.f k l0_0 a0_1 l0_2 l0_3 a0_4 = some (r1,r2)) :
  Calls Try.prog 12 #[.agg #[.slice A0_0 l0_0.length c0_0,.int .i64 a0_1,.slice A0_2 l0_2.length c0_2,.slice A0_3 l0_3.length c0_3,.int .i64 a0_4]] w fun e w'=>∃ v0_:Value,e = .returned (.tuple #[v0_,.int .i64 r2])∧Kd.R (Kd.int .i64) 3 w' w.heap.size (fun _=>True) v0_ r1∧Below w.heap.size w w':=by
 have hu33:=Try.underlying26;have HR0_0:=zA hr0_0;have HR0_2:=zA hr0_2;have HR0_3:=zA hr0_3;have HC0_0:=zA hc0_0;have HC0_2:=zA hc0_2;have HC0_3:=zA hc0_3;clear hr0_0 hr0_2 hr0_3 hc0_0 hc0_2 hc0_3;unfold zAP.f at h;replace h:=zb.mp h;obtain ⟨e0,A2,h⟩:=h;have HA2:=zA A2;have HH:=zA h;clear A2 h;by_cases he:e0 = 0
 case neg =>
  have q1:(e0 != 0) = true:=bne_iff_ne.2 he;have h:=HH.out;rw [if_neg he] at h;simp only [Option.some.injEq,Prod.mk.injEq] at h;obtain ⟨rfl,rfl⟩:=h;go_enter Try.func12,Try.ntmps12;go_wp2_with (first|((with_reducible refine zV (N:=1) rfl ?_);refine bq 1 (cs:=#[.slice A0_0 l0_0.length c0_0,.int .i64 a0_1,.slice A0_2 l0_2.length c0_2,.slice A0_3 l0_3.length c0_3,.int .i64 a0_4]) (t:=26) ?_;intro gb hg w1 hbox hb;have HB1:=zA hb;have HX1:=zA hbox;have k0:w1.cell? ⟨gb,0,none⟩ = some (.slice A0_0 l0_0.length c0_0):=zI hbox 0;have k1:w1.cell? ⟨gb,1,none⟩ = some (.int .i64 a0_1):=zI hbox 1;have k2:w1.cell? ⟨gb,2,none⟩ = some (.slice A0_2 l0_2.length c0_2):=zI hbox 2;have k3:w1.cell? ⟨gb,3,none⟩ = some (.slice A0_3 l0_3.length c0_3):=zI hbox 3;have k4:w1.cell? ⟨gb,4,none⟩ = some (.int .i64 a0_4):=zI hbox 4;clear hb hbox hg)|(go_at_call 27;(with_reducible refine (zAM.calls k _ _ l0_0 a0_1 _ _ l0_2 _ _ l0_3 a0_4 e0 _ (zT HR0_0.out HB1.out) HC0_0.out (zT HR0_2.out HB1.out) HC0_2.out (zT HR0_3.out HB1.out) HC0_3.out HA2.out).mono ?_);rintro e w2 ⟨rfl,hb⟩;have HB2:=zA (zH HB1.out hb);clear k0 k1 k2 k3 k4;clear hb));go_ret2;exact ⟨_,rfl,Kd.R_nil _ _ _ _ _,HB2.out⟩
 have q1:(e0 != 0) = false:=bne_eq_false_iff_eq.2 he;have h:=HH.out;rw [if_pos he] at h;clear HH;by_cases hn:rowsOK l0_0.length l0_2 = true
 case neg=>rw [if_neg hn] at h;cases h
 rw [if_pos hn] at h;have HN:=zA (rows_parts hn);clear hn;replace h:=zb.mp h;obtain ⟨sr,h,hh⟩:=h;simp only [Option.some.injEq,Prod.mk.injEq] at hh;obtain ⟨rfl,rfl⟩:=hh;have HL0:=zA h;clear h;go_enter Try.func12,Try.ntmps12;go_upto_region 5 with (first|((with_reducible refine zV (N:=1) rfl ?_);refine bq 1 (cs:=#[.slice A0_0 l0_0.length c0_0,.int .i64 a0_1,.slice A0_2 l0_2.length c0_2,.slice A0_3 l0_3.length c0_3,.int .i64 a0_4]) (t:=26) ?_;intro gb hg w1 hbox hb;have HB1:=zA hb;have HG1:=zA (show w.heap.size ≤ gb by rw [hg];exact Nat.le_refl _);have HX1:=zA hbox;have k0:w1.cell? ⟨gb,0,none⟩ = some (.slice A0_0 l0_0.length c0_0):=zI hbox 0;have k1:w1.cell? ⟨gb,1,none⟩ = some (.int .i64 a0_1):=zI hbox 1;have k2:w1.cell? ⟨gb,2,none⟩ = some (.slice A0_2 l0_2.length c0_2):=zI hbox 2;have k3:w1.cell? ⟨gb,3,none⟩ = some (.slice A0_3 l0_3.length c0_3):=zI hbox 3;have k4:w1.cell? ⟨gb,4,none⟩ = some (.int .i64 a0_4):=zI hbox 4;clear hb hbox hg)|(go_at_call 27;(with_reducible refine (zAM.calls k _ _ l0_0 a0_1 _ _ l0_2 _ _ l0_3 a0_4 e0 _ (zT HR0_0.out HB1.out) HC0_0.out (zT HR0_2.out HB1.out) HC0_2.out (zT HR0_3.out HB1.out) HC0_3.out HA2.out).mono ?_);rintro e w2 ⟨rfl,hb⟩;have hx:=zN HX1.out hb;have HX2:=zA hx;have HB2:=zA (zH HB1.out hb);clear k0 k1 k2 k3 k4;have k0:w2.cell? ⟨gb,0,none⟩ = some (.slice A0_0 l0_0.length c0_0):=zI hx 0;have k1:w2.cell? ⟨gb,1,none⟩ = some (.int .i64 a0_1):=zI hx 1;have k2:w2.cell? ⟨gb,2,none⟩ = some (.slice A0_2 l0_2.length c0_2):=zI hx 2;have k3:w2.cell? ⟨gb,3,none⟩ = some (.slice A0_3 l0_3.length c0_3):=zI hx 3;have k4:w2.cell? ⟨gb,4,none⟩ = some (.int .i64 a0_4):=zI hx 4;clear hb hx));obtain ⟨L,hLL⟩:∃ L,L = l0_0.length:=⟨_,rfl⟩;have hL2:L ≤ 20000:=by have:=HN.out.2.1;omega
 have hmk:∀ W:World,(Instr.makeSlice 24 (.int .i64 (L:Int)) (.int .i64 (L:Int))).run Try.prog W = .ok (.slice (some ⟨W.heap.size,0,none⟩) L L) (W.alloc (.cells (nums .i64 (List.replicate L 0)).toArray 3)):=by
  intro W;obtain ⟨i0,hi0,hz0,hz1,hz2⟩:=info_parts info3;have:=run_make (P:=Try.prog) W 24 3 i0 (.int .i64 0) Try.underlying24 hi0 hz0 .i64 .i64 (L:Int) (L:Int) (by omega) (by omega) (by rw [hz2];omega) (by omega);rw [Int.toNat_natCast,hz1,Nat.mul_one] at this;rw [this,← made_rep];rfl
 rw [← hLL] at HL0 HN k0 ⊢;have HLL:=zA hLL;clear hLL;have hx2:=HX2.out;rw [← HLL.out] at hx2;have hx3:=zK hx2 (Obj.cells (nums .i64 (List.replicate L 0)).toArray 3);have kx10:(w2.alloc (Obj.cells (nums .i64 (List.replicate L 0)).toArray 3)).cell? ⟨gb,0,none⟩ = some (.slice A0_0 L c0_0):=zI hx3 0;have kx11:(w2.alloc (Obj.cells (nums .i64 (List.replicate L 0)).toArray 3)).cell? ⟨gb,1,none⟩ = some (.int .i64 a0_1):=zI hx3 1;have kx12:(w2.alloc (Obj.cells (nums .i64 (List.replicate L 0)).toArray 3)).cell? ⟨gb,2,none⟩ = some (.slice A0_2 l0_2.length c0_2):=zI hx3 2;have kx13:(w2.alloc (Obj.cells (nums .i64 (List.replicate L 0)).toArray 3)).cell? ⟨gb,3,none⟩ = some (.slice A0_3 l0_3.length c0_3):=zI hx3 3;have kx14:(w2.alloc (Obj.cells (nums .i64 (List.replicate L 0)).toArray 3)).cell? ⟨gb,4,none⟩ = some (.int .i64 a0_4):=zI hx3 4;have hx4:=zK hx3 (Obj.cells (nums .i64 (List.replicate L 0)).toArray 3);have kx20:((w2.alloc (Obj.cells (nums .i64 (List.replicate L 0)).toArray 3)).alloc (Obj.cells (nums .i64 (List.replicate L 0)).toArray 3)).cell? ⟨gb,0,none⟩ = some (.slice A0_0 L c0_0):=zI hx4 0;have kx21:((w2.alloc (Obj.cells (nums .i64 (List.replicate L 0)).toArray 3)).alloc (Obj.cells (nums .i64 (List.replicate L 0)).toArray 3)).cell? ⟨gb,1,none⟩ = some (.int .i64 a0_1):=zI hx4 1;have kx22:((w2.alloc (Obj.cells (nums .i64 (List.replicate L 0)).toArray 3)).alloc (Obj.cells (nums .i64 (List.replicate L 0)).toArray 3)).cell? ⟨gb,2,none⟩ = some (.slice A0_2 l0_2.length c0_2):=zI hx4 2;have kx23:((w2.alloc (Obj.cells (nums .i64 (List.replicate L 0)).toArray 3)).alloc (Obj.cells (nums .i64 (List.replicate L 0)).toArray 3)).cell? ⟨gb,3,none⟩ = some (.slice A0_3 l0_3.length c0_3):=zI hx4 3;have kx24:((w2.alloc (Obj.cells (nums .i64 (List.replicate L 0)).toArray 3)).alloc (Obj.cells (nums .i64 (List.replicate L 0)).toArray 3)).cell? ⟨gb,4,none⟩ = some (.int .i64 a0_4):=zI hx4 4;have hx5:=zK hx4 (Obj.cells (nums .i64 (List.replicate L 0)).toArray 3);have kx30:(((w2.alloc (Obj.cells (nums .i64 (List.replicate L 0)).toArray 3)).alloc (Obj.cells (nums .i64 (List.replicate L 0)).toArray 3)).alloc (Obj.cells (nums .i64 (List.replicate L 0)).toArray 3)).cell? ⟨gb,0,none⟩ = some (.slice A0_0 L c0_0):=zI hx5 0;have kx31:(((w2.alloc (Obj.cells (nums .i64 (List.replicate L 0)).toArray 3)).alloc (Obj.cells (nums .i64 (List.replicate L 0)).toArray 3)).alloc (Obj.cells (nums .i64 (List.replicate L 0)).toArray 3)).cell? ⟨gb,1,none⟩ = some (.int .i64 a0_1):=zI hx5 1;have kx32:(((w2.alloc (Obj.cells (nums .i64 (List.replicate L 0)).toArray 3)).alloc (Obj.cells (nums .i64 (List.replicate L 0)).toArray 3)).alloc (Obj.cells (nums .i64 (List.replicate L 0)).toArray 3)).cell? ⟨gb,2,none⟩ = some (.slice A0_2 l0_2.length c0_2):=zI hx5 2;have kx33:(((w2.alloc (Obj.cells (nums .i64 (List.replicate L 0)).toArray 3)).alloc (Obj.cells (nums .i64 (List.replicate L 0)).toArray 3)).alloc (Obj.cells (nums .i64 (List.replicate L 0)).toArray 3)).cell? ⟨gb,3,none⟩ = some (.slice A0_3 l0_3.length c0_3):=zI hx5 3;have kx34:(((w2.alloc (Obj.cells (nums .i64 (List.replicate L 0)).toArray 3)).alloc (Obj.cells (nums .i64 (List.replicate L 0)).toArray 3)).alloc (Obj.cells (nums .i64 (List.replicate L 0)).toArray 3)).cell? ⟨gb,4,none⟩ = some (.int .i64 a0_4):=zI hx5 4;have HBs:=zA (show w.heap.size ≤ w2.heap.size from HB2.out.size);have HB2s:=zA (zD (zD (zD HB2.out (Obj.cells (nums .i64 (List.replicate L 0)).toArray 3)) (Obj.cells (nums .i64 (List.replicate L 0)).toArray 3)) (Obj.cells (nums .i64 (List.replicate L 0)).toArray 3));go_cut [6] (fun v6 wc=>∃ gs gO gL gP:Nat,v6 = .pointer (some ⟨gs,0,none⟩)∧Aside0 (SrchOK w.heap.size gs gO gL gP L (.slice A0_0 L c0_0) (.int .i64 a0_1) (.slice A0_2 l0_2.length c0_2) (.slice A0_3 l0_3.length c0_3) (.int .i64 a0_4) ⟨List.replicate L 0,List.replicate L 0,List.replicate L 0,[],[],0⟩ (.slice none 0 0) (.slice none 0 0) wc)∧Aside0 (Below w.heap.size w wc))
 case first =>
  have n1:=zA (heap_new w2 (Obj.cells (nums .i64 (List.replicate L 0)).toArray 3));have n2:=zA (zK n1.out (Obj.cells (nums .i64 (List.replicate L 0)).toArray 3));have n3:=zA (zK n2.out (Obj.cells (nums .i64 (List.replicate L 0)).toArray 3));have m2:=zA (heap_new (w2.alloc (Obj.cells (nums .i64 (List.replicate L 0)).toArray 3)) (Obj.cells (nums .i64 (List.replicate L 0)).toArray 3));have m3:=zA (zK m2.out (Obj.cells (nums .i64 (List.replicate L 0)).toArray 3));have p3:=zA (heap_new ((w2.alloc (Obj.cells (nums .i64 (List.replicate L 0)).toArray 3)).alloc (Obj.cells (nums .i64 (List.replicate L 0)).toArray 3)) (Obj.cells (nums .i64 (List.replicate L 0)).toArray 3));have m3':=m3.out;have p3':=p3.out;rw [size_alloc] at m3' p3';rw [size_alloc] at p3';have M3:=zA m3';have P3:=zA p3';clear m3' p3';go_region;all_goals
   go_wp2_with fail;go_meet
  all_goals
   have hbs:=HBs.out;have hgb:=HG1.out;have hok:=fun (gO gL gP:Nat)=>start_ok (base:=w.heap.size) (L:=L) (gO:=gO) (gL:=gL) (gP:=gP) (g0:=.slice A0_0 L c0_0) (g1:=.int .i64 a0_1) (g2:=.slice A0_2 l0_2.length c0_2) (g3:=.slice A0_3 l0_3.length c0_3) (g4:=.int .i64 a0_4) (gs:=w2.heap.size + 1 + 1 + 1) (w3:=((w2.alloc (Obj.cells (nums .i64 (List.replicate L 0)).toArray 3)).alloc (Obj.cells (nums .i64 (List.replicate L 0)).toArray 3)).alloc (Obj.cells (nums .i64 (List.replicate L 0)).toArray 3)) (by rw [size_alloc,size_alloc,size_alloc]);first
   | exact ⟨_,_,_,_,rfl,⟨hok _ _ _ (by first|exact n3.out|exact M3.out|exact P3.out) (by first|exact n3.out|exact M3.out|exact P3.out) (by first|exact n3.out|exact M3.out|exact P3.out) (by omega) (by omega)⟩,⟨zD HB2s.out _⟩⟩
   | exact ⟨_,_,_,_,rfl,⟨(hok _ _ _ (by first|exact n3.out|exact M3.out|exact P3.out) (by first|exact n3.out|exact M3.out|exact P3.out) (by first|exact n3.out|exact M3.out|exact P3.out) (by omega) (by omega)).drew⟩,⟨(zD HB2s.out _).drew⟩⟩
 case rest =>
  obtain ⟨gs,gO,gL,gP,rfl,HS,HB⟩:=hcut;have HMK:=zA hL2;clear hmk hx2 hx3 hx4 hx5 kx10 kx11 kx12 kx13 kx14 kx20 kx21 kx22 kx23 kx24 kx30 kx31 kx32 kx33 kx34 k0 k1 k2 k3 k4 HB2s HBs HX1 HX2 HB1 HB2 HG1 hL2;have k7:wc.cell? ⟨gs,7,none⟩ = some (.slice (some ⟨gP,0,none⟩) L L):=zI HS.out.b 7;go_wp2;clear k7;go_loopg [31] (L + 1) (fun kq v31 w'=>∃ t:Nat,v31 = .int .i64 (t:Int)∧Aside0 (kq + t = L + 1∧t ≤ L)∧Aside0 (SrchOK w.heap.size gs gO gL gP L (.slice A0_0 L c0_0) (.int .i64 a0_1) (.slice A0_2 l0_2.length c0_2) (.slice A0_3 l0_3.length c0_3) (.int .i64 a0_4) ⟨List.replicate L 0,List.replicate L 0,List.replicate t (-1) ++ List.replicate (L - t) 0,[],[],0⟩ (.slice none 0 0) (.slice none 0 0) w')∧Aside0 (Below w.heap.size w w'))
  case atStart=>exact ⟨0,rfl,⟨rfl,Nat.zero_le _⟩,HS,HB⟩
  case round =>
   clear HS HB;obtain ⟨t,rfl,HT,HS,HB⟩:=hrel;by_cases ht:t < L
   ·have hd:decide ((t:Int) < (L:Int)) = true:=zQ (by omega);have hd2:((t:Int) < (L:Int)) = True:=qT (by omega);have hd4:decide (t < L) = true:=zQ ht;have hp:(0 ≤ (t:Int)) = True:=qT (by omega);have e1:IntKind.i64.wrap ((t:Int) + 1) = ((t + 1:Nat):Int):=by rw [IntKind.wrap_i64];have:=HMK.out;omega
    have k7:wr.cell? ⟨gs,7,none⟩ = some (.slice (some ⟨gP,0,none⟩) L L):=zI HS.out.b 7;have kP:=nums_cell HS.out.p (t:Int) (by omega) (by show (t:Int) < ((List.replicate t (-1) ++ List.replicate (L - t) 0:List Int).length:Int);rw [List.length_append,List.length_replicate,List.length_replicate];omega);rw [Int.toNat_natCast] at kP;have yP:wr.frozen? ⟨gP,t,none⟩ = false:=zJ HS.out.p _;have HSn:=zA ((HS.out.setP t (-1)).ext (s':=⟨List.replicate L 0,List.replicate L 0,List.replicate (t + 1) (-1) ++ List.replicate (L - (t + 1)) 0,[],[],0⟩) (by
     have e:(List.replicate t (-1) ++ List.replicate (L - t) 0:List Int).set t (-1) = List.replicate (t + 1) (-1) ++ List.replicate (L - (t + 1)) 0:=by
      rw [List.set_append_right _ _ (by simp),List.length_replicate,Nat.sub_self,show L - t = (L - (t + 1)) + 1 by omega,List.replicate_succ,zY,List.replicate_succ' (n:=t),List.append_assoc];rfl
     simp only [e]))
    have HBn:=zA (HB.out.setCell HS.out.bd.2.2.2 (p:=⟨gP,t,none⟩) (.int .i64 (-1)));have HTn:=zA (show (L - t + (t + 1) = L + 1∧t + 1 ≤ L)∧L - t < gk by have:=HT.out;omega);clear HS HB ht;go_wp2;go_roundg (L - t)
    case measure=>exact HTn.out.2
    case rel=>exact ⟨t + 1,rfl,⟨HTn.out.1⟩,HSn,HBn⟩
   have hd:decide ((t:Int) < (L:Int)) = false:=zR (by omega);have hd4:decide (t < L) = false:=zR ht;have HS0:=zA (HS.out.ext (s':=⟨List.replicate L 0,List.replicate L 0,List.replicate L (-1),[],[],0⟩) (by
    have e:t = L:=by have:=HT.out;omega
    subst e
    simp))
   have HB0:=zA HB.out;clear HS HB ht HT;go_wp2;clear hd hd4;go_loopg [42] k (fun kq v42 w'=>∃ (x:Int) (s:Srch) (vOp vC:Value),v42 = .int .i64 x∧Aside0 (zAP.l0 kq s x (L:Int) l0_2 = some sr)∧Aside0 (kq ≤ k)∧Aside0 (SrchOK w.heap.size gs gO gL gP L (.slice A0_0 L c0_0) (.int .i64 a0_1) (.slice A0_2 l0_2.length c0_2) (.slice A0_3 l0_3.length c0_3) (.int .i64 a0_4) s vOp vC w')∧Aside0 (Below w.heap.size w w'))
   case atStart=>exact ⟨0,_,_,_,rfl,HL0,⟨Nat.le_refl _⟩,HS0,HB0⟩
   case round =>
    clear HL0 HS0 HB0;obtain ⟨x,s,vOp,vC,rfl,HA,HK,HS,HB⟩:=hrel;cases gk with
    | zero=>exact absurd HA.out (by simp [zAP.l0])
    | succ k1 =>
    have h:=HA.out;clear HA;simp only [zAP.l0] at h;by_cases hx:x < (L:Int)
    case neg =>
     rw [if_neg hx] at h;by_cases hsf:safeS l0_2 ((L:Int)).toNat s = true
     case neg=>rw [if_neg hsf] at h;cases h
     rw [if_pos hsf,Int.toNat_natCast] at *;obtain rfl:=Option.some.inj h;have hq:decide (x < (L:Int)) = false:=zR hx;have k7:wr.cell? ⟨gs,7,none⟩ = some (.slice (some ⟨gP,0,none⟩) L L):=zI HS.out.b 7;have hpl:s.part.length = L:=(safe_parts hsf).1.2.2.1;have hR:=R_of_block (k:=.i64) HS.out.p HS.out.bd.2.2.2 (by rw [hpl];have:=HMK.out;omega);rw [hpl] at hR;have HRR:=zA hR;clear h hsf hpl hR hx;go_wp2;go_ret2;exact ⟨_,rfl,HRR.out,HB.out⟩
    rw [if_pos hx] at h;by_cases hx0:0 ≤ x
    case neg=>rw [if_neg hx0] at h;cases h
    rw [if_pos hx0] at h;by_cases hsf:safeS l0_2 ((L:Int)).toNat s = true
    case neg=>rw [if_neg hsf] at h;cases h
    rw [if_pos hsf] at h;by_cases hem:s.calls.isEmpty = true
    case neg=>rw [if_neg hem] at h;cases h
    rw [if_pos hem] at h;rw [Int.toNat_natCast] at hsf;have hcs:s.calls = []:=List.isEmpty_iff.1 hem;have hq:decide (x < (L:Int)) = true:=zQ hx;have p1:(0 ≤ x) = True:=qT hx0;have p2:(x < (L:Int)) = True:=qT hx;have k5:wr.cell? ⟨gs,5,none⟩ = some (.slice (some ⟨gO,0,none⟩) L L):=zI HS.out.b 5;have kO:=nums_cell HS.out.o x hx0 (by rw [(safe_parts hsf).1.1];exact hx);have hsp:=safe_parts hsf;have HSP:=zA hsp.1;have HX0:=zA hx0;have HX1:=zA hx;have HCS:=zA hcs;have e1:IntKind.i64.wrap (x + 1) = x + 1:=by rw [IntKind.wrap_i64];have:=HMK.out;omega
    have HE1:=zA e1;clear hsp e1 hcs hem hx0 hx hsf;have HL1:=zA h;clear h;go_upto_if 52 with fail;go_cut [] (fun wc=>∃ vOp' vC',Aside0 (SrchOK w.heap.size gs gO gL gP L (.slice A0_0 L c0_0) (.int .i64 a0_1) (.slice A0_2 l0_2.length c0_2) (.slice A0_3 l0_3.length c0_3) (.int .i64 a0_4) (if rd s.order x = 0 then enterS s x else s) vOp' vC' wc)∧Aside0 (Below w.heap.size w wc))
    case first =>
     by_cases t2:rd s.order x = 0
     ·have q2:(rd s.order x == 0) = true:=beq_iff_eq.2 t2;have hsp:=HSP.out;have HEN:=zA (enter_calls w.heap.size gs gO gL gP L (.slice A0_0 L c0_0) (.int .i64 a0_1) (.slice A0_2 l0_2.length c0_2) (.slice A0_3 l0_3.length c0_3) (.int .i64 a0_4) s vOp vC wr x HS.out HB.out.size hsp.1 hsp.2.1 HX0.out HX1.out ⟨hsp.2.2.2.1,qo HMK⟩ (qo HMK) (qo HMK));have HT2:=zA t2;rw [q2];clear hsp t2;go_wp2_with fail;refine HEN.out.mono ?_;rintro e w5 ⟨rfl,hb,vOp',vC',hs⟩;have HB5:=zA (HB.out.trans hb);have HS5:=zA hs;clear hb hs HEN;go_wp2_with fail;go_meet
      case rel=>exact ⟨_,_,⟨by rw [if_pos HT2.out];exact HS5.out⟩,HB5⟩
     ·have q2:(rd s.order x == 0) = false:=beq_eq_false_iff_ne.2 t2;have HT2:=zA t2;rw [q2];clear t2;go_wp2_with fail;go_meet
      case rel=>exact ⟨_,_,⟨by rw [if_neg HT2.out];exact HS.out⟩,HB⟩
    case rest =>
     clear HS HB k5 kO hq p1 p2;obtain ⟨vOp2,vC2,HS,HB⟩:=hcut;obtain ⟨s1,hs1⟩:∃ s1,s1 = (if rd s.order x = 0 then enterS s x else s):=⟨_,rfl⟩;rw [← hs1] at HL1 HS;clear hs1 HSP HCS;go_wp2_with fail;go_loopg [] k1 (fun kq w'=>∃ (s:Srch) (vOp vC:Value),Aside0 (zAP.l1 kq s x (L:Int) l0_2 = some sr)∧Aside0 (kq ≤ k1)∧Aside0 (SrchOK w.heap.size gs gO gL gP L (.slice A0_0 L c0_0) (.int .i64 a0_1) (.slice A0_2 l0_2.length c0_2) (.slice A0_3 l0_3.length c0_3) (.int .i64 a0_4) s vOp vC w')∧Aside0 (Below w.heap.size w w'))
     case atStart=>exact ⟨_,_,_,HL1,⟨Nat.le_refl _⟩,HS,HB⟩
     case round =>
      clear HL1 HS HB;obtain ⟨s,vOp,vC,HA,HK2,HS,HB⟩:=hrel;cases gk with
      | zero=>exact absurd HA.out (by simp [zAP.l1])
      | succ k2 =>
      have h:=HA.out;clear HA;simp only [zAP.l1] at h;by_cases hsf:safeS l0_2 ((L:Int)).toNat s = true
      case neg=>rw [if_neg hsf] at h;cases h
      rw [if_pos hsf] at h;rw [Int.toNat_natCast] at hsf;have k9:wr.cell? ⟨gs,9,none⟩ = some vC:=zI HS.out.b 9;obtain ⟨AC,cC,ev⟩:=own_slice HS.out.ca;subst ev;by_cases hem:s.calls.isEmpty = true
      ·rw [if_pos hem] at h;have hcs:s.calls.length = 0:=by rw [List.isEmpty_iff.1 hem];rfl
       have hq:decide (0 < s.calls.length) = false:=zR (by omega);have e1:=HE1.out;have HA:=zA h;clear h hem hsf hcs;go_wp2_with fail;go_roundg k2
       case measure=>have:=HK2.out;omega
       case rel=>exact ⟨x + 1,s,_,_,rfl,HA,⟨qp HK HK2⟩,HS,HB⟩
      ·rw [if_neg hem] at h;rcases List.eq_nil_or_concat s.calls with e|⟨cl,⟨a,j⟩,e⟩
       ·rw [e] at hem;exact absurd rfl hem
       rw [List.concat_eq_append] at e;have hq:decide (0 < s.calls.length) = true:=zQ (by rw [e];simp);have hrow:=HN.out.2.2 a;have HGO:=zA (goOn_calls w.heap.size gs gO gL gP L (.slice A0_0 L c0_0) (.int .i64 a0_1) (.slice A0_3 l0_3.length c0_3) (.int .i64 a0_4) A0_2 c0_2 l0_2 s vOp _ wr w cl a j HB.out rfl HS.out HR0_2.out hsf e HMK.out HN.out.1 hrow.2 hrow.1);have HA:=zA h;clear h hem hsf e hrow;go_wp2_with fail;refine HGO.out.mono ?_;rintro e w5 ⟨rfl,hb,vOp',vC',hs⟩;have HB5:=zA (HB.out.trans hb);have HS5:=zA hs;clear hb hs HGO;go_wp2_with fail;go_roundg k2
       case measure=>have:=HK2.out;omega
       case rel=>exact ⟨_,_,_,HA,⟨qo HK2⟩,HS5,HB5⟩
end
end Go.Proofs.Ytkcghbfmigdomaa.Q
