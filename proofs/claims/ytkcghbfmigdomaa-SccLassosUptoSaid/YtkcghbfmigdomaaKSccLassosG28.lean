import Derived.Test.YtkcghbfmigdomaaKSccLassosG26
-- Cut by a program of this session (wip/prune.py) from a longer text: declarations that the law does not need are left out.
namespace Go.Proofs.Ytkcghbfmigdomaa.Q
open Go.Proofs.Ytkcghbfmigdomaa.Al
open Option renaming bind_eq_some_iff → zb
open List renaming set_cons_zero → zY, map_cons → zy, map_nil → zz, length_take → zt
open Go.Proofs.YtkcghbfmigdomaaW.PrintWords renaming below_alloc → zD, below_step → zH, blk_cell → zI, blk_frozen → zJ, blk_alloc → zK, blk_below → zN, Kd.C_below → zT, gate_dst → zV
open Go.Proofs.Ytkcghbfmigdomaa.Sq
open Go.RowKit Go.Proofs.YtkcghbfmigdomaaW.PrintWords Go.Proofs.YtkcghbfmigdomaaW.PrintLast Go.Proofs.YtkcghbfmigdomaaW.PrintMore
attribute [local go_sem] max2_int min2_int max_two min_two max_three min_three max_four min_four
set_option linter.unusedVariables false
set_option linter.unusedSimpArgs false
section
open Go.Proofs.Ytkcghbfmigdomaa.Hand
open Go.Proofs.Ytkcghbfmigdomaa.Pure (turnS turnAll turnRow turn1 tot tot_row tot_all range_sum row_tot partsOfL markS)
structure TurnOK (base gT gN gR gb n:Nat) (g0:Value) (bx:Array Value) (vs:List Value) (acc:List (List Int)) (w:World):Prop where
 b:w.heap[gT]? = some (.cells #[g0,.int .i64 0,.slice (some ⟨gN,0,none⟩) n n,.slice none 0 0,.int .i64 0] 26 (0,0))
 r:w.heap[gN]? = some (.cells vs.toArray 24 (0,0))
 lv:vs.length = n
 la:acc.length = n
 own:∀ j,j < n → w.ownsRow base 3 1 (vs.getD j (.slice none 0 0)) (acc.getD j []).length (nums .i64 (acc.getD j []))
 ap:∀ i j b,i < n → j < n → i ≠ j → (vs.getD i (.slice none 0 0)).ownBlock = some b → (vs.getD j (.slice none 0 0)).ownBlock ≠ some b
 bd:base ≤ gT∧base ≤ gN
 rs:w.heap[gR]? = some (.cells #[.slice none 0 0,.int .i64 0,.slice none 0 0,.slice none 0 0,.int .i64 0] 26 (0,0))
 bb:w.heap[gb]? = some (.cells bx 26 (0,0))
theorem getD_set_self {α:Type} (l:List α) (q:Nat) (v d:α) (h:q < l.length):(l.set q v).getD q d = v:=by simp [h]
theorem getD_set_other {α:Type} (l:List α) (q j:Nat) (v d:α) (h:q ≠ j):(l.set q v).getD j d = l.getD j d:=by
 rw [List.getD_eq_getElem?_getD,List.getD_eq_getElem?_getD,List.getElem?_set_ne h]
section
variable {base gT gN gR gb n:Nat} {g0:Value} {bx:Array Value} {vs:List Value} {acc:List (List Int)} {w:World} (h:TurnOK base gT gN gR gb n g0 bx vs acc w)
include h
theorem TurnOK.drew:TurnOK base gT gN gR gb n g0 bx vs acc w.drew:=⟨h.b,h.r,h.lv,h.la,h.own,h.ap,h.bd,h.rs,h.bb⟩
theorem TurnOK.cell {q:Nat} (hq:q < n):w.cell? ⟨gN,q,none⟩ = some (vs.getD q (.slice none 0 0)):=by
 rw [zI h.r];have:q < vs.length:=by rw [h.lv];exact hq
 simp [this]
theorem TurnOK.put {q:Nat} (hq:q < n) {i:Int} {w1:World} {v1:Value} (ho:w1.ownsRow base 3 1 v1 (acc.getD q [] ++ [i]).length (nums .i64 (acc.getD q [] ++ [i]))) (hg:w.grownBy w1 (vs.getD q (.slice none 0 0)).ownBlock) (hat:v1.ownBlock = (vs.getD q (.slice none 0 0)).ownBlock ∨ ∃ b,v1.ownBlock = some b∧w.heap.size ≤ b) :
  TurnOK base gT gN gR gb n g0 bx (vs.set q v1) (acc.set q (acc.getD q [] ++ [i])) (w1.setCell ⟨gN,q,none⟩ v1):=by
 have hb1:=blk_grown h.b hg (own_ne (h.own q hq) h.b (by decide));have hr1:=blk_grown h.r hg (own_ne (h.own q hq) h.r (by decide));have hs1:=blk_grown h.rs hg (own_ne (h.own q hq) h.rs (by decide));have hx1:=blk_grown h.bb hg (own_ne (h.own q hq) h.bb (by decide));have hlt:∀ j b,j < n → (vs.getD j (.slice none 0 0)).ownBlock = some b → b < w.heap.size:=fun j b hj e=>by
  obtain ⟨cells,hk⟩:=own_typed (h.own j hj) b e;exact blk_lt hk
 refine ⟨blk_far hb1 (blk_ne hb1 hr1 (by decide)) _,by rw [blk_set hr1];simp,by rw [List.length_set];exact h.lv,by rw [List.length_set];exact h.la,fun j hj=>?_,fun a j b ha hj hne e=>?_,h.bd,blk_far hs1 (blk_ne hs1 hr1 (by decide)) _,blk_far hx1 (blk_ne hx1 hr1 (by decide)) _⟩
 ·by_cases e:q = j
  ·subst e;rw [getD_set_self _ _ _ _ (by rw [h.lv];exact hq),getD_set_self _ _ _ _ (by rw [h.la];exact hq)];exact own_setCell ho (own_ne ho hr1 (by decide)) _
  ·rw [getD_set_other _ _ _ _ _ e,getD_set_other _ _ _ _ _ e];have hoj:w1.ownsRow base 3 1 (vs.getD j (.slice none 0 0)) (acc.getD j []).length (nums .i64 (acc.getD j [])):=own_other (h.own j hj) hg (by
    cases hv:(vs.getD q (.slice none 0 0)).ownBlock with
    | none=>cases hc:(vs.getD j (.slice none 0 0)).ownBlock <;> simp
    | some k=>exact .inr (fun e'=>h.ap q j k hq hj e hv e'))
   exact own_setCell hoj (own_ne hoj hr1 (by decide)) _
 ·by_cases ea:q = a
  ·subst ea;rw [getD_set_self _ _ _ _ (by rw [h.lv];exact hq)] at e;rw [getD_set_other _ _ _ _ _ hne];intro e';rcases hat with e2|⟨b2,e2,hb2⟩
   ·exact h.ap q j b hq hj hne (e2 ▸ e) e'
   ·rw [e2] at e;injection e with e;subst e;have:=hlt j _ hj e';omega
  ·rw [getD_set_other _ _ _ _ _ ea] at e;by_cases ej:q = j
   ·subst ej;rw [getD_set_self _ _ _ _ (by rw [h.lv];exact hq)];intro e';rcases hat with e2|⟨b2,e2,hb2⟩
    ·exact h.ap a q b ha hq hne e (e2 ▸ e')
    ·rw [e2] at e';injection e' with e';subst e';have:=hlt a _ ha e;omega
   ·rw [getD_set_other _ _ _ _ _ ej];exact h.ap a j b ha hj hne e
end
theorem turn_start {base gT gN gR gb n:Nat} {g0:Value} {bx:Array Value} {w:World} (hT:w.heap[gT]? = some (.cells #[g0,.int .i64 0,.slice (some ⟨gN,0,none⟩) n n,.slice none 0 0,.int .i64 0] 26 (0,0))) (hN:w.heap[gN]? = some (.cells (Array.replicate n (.slice none 0 0)) 24 (0,0))) (hR:w.heap[gR]? = some (.cells #[.slice none 0 0,.int .i64 0,.slice none 0 0,.slice none 0 0,.int .i64 0] 26 (0,0))) (hB:w.heap[gb]? = some (.cells bx 26 (0,0))) (bd:base ≤ gT∧base ≤ gN):TurnOK base gT gN gR gb n g0 bx (List.replicate n (.slice none 0 0)) (List.replicate n []) w:=by
 have e1:∀ j,(List.replicate n (Value.slice none 0 0)).getD j (.slice none 0 0) = .slice none 0 0:=fun j=>by
  rw [List.getD_eq_getElem?_getD,List.getElem?_replicate];split <;> rfl
 have e2:∀ j,(List.replicate n ([]:List Int)).getD j [] = []:=fun j=>by
  rw [List.getD_eq_getElem?_getD,List.getElem?_replicate];split <;> rfl
 refine ⟨hT,by rw [hN];simp,by simp,by simp,fun j hj=>?_,fun i j b hi hj hne e=>?_,bd,hR,hB⟩
 ·rw [e1,e2];exact ⟨rfl,.inl ⟨rfl,rfl⟩⟩
 ·rw [e1] at e;cases e
theorem TurnOK.alloc {base gT gN gR gb n:Nat} {g0:Value} {bx:Array Value} {vs:List Value} {acc:List (List Int)} {w:World} (h:TurnOK base gT gN gR gb n g0 bx vs acc w) (o:Obj):TurnOK base gT gN gR gb n g0 bx vs acc (w.alloc o):=⟨zK h.b _,zK h.r _,h.lv,h.la,fun j hj=>own_alloc (h.own j hj) _,h.ap,h.bd,zK h.rs _,zK h.bb _⟩
theorem own_low {w:World} {base n:Nat} {e:TypeId} {size:Nat} {v:Value} {xs:List Value} (h:w.ownsRow base e size v n xs):∀ k,v.ownBlock = some k → base ≤ k:=by
 obtain ⟨_,h⟩:=h;rcases h with ⟨rfl,_⟩|⟨g,c,cells,rfl,hb,_⟩
 ·intro k hk;cases hk
 ·intro k hk;cases hk;exact hb
structure RowsOK (base gN gR n:Nat) (vs:List Value) (acc:List (List Int)) (w:World):Prop where
 r:w.heap[gN]? = some (.cells vs.toArray 24 (0,0))
 lv:vs.length = n
 la:acc.length = n
 own:∀ j,j < n → w.ownsRow base 3 1 (vs.getD j (.slice none 0 0)) (acc.getD j []).length (nums .i64 (acc.getD j []))
 rs:∃ cs,w.heap[gR]? = some (.cells cs 26 (0,0))
theorem TurnOK.rows {base gT gN gR gb n:Nat} {g0:Value} {bx:Array Value} {vs:List Value} {acc:List (List Int)} {w:World} (h:TurnOK base gT gN gR gb n g0 bx vs acc w):RowsOK base gN gR n vs acc w:=⟨h.r,h.lv,h.la,h.own,_,h.rs⟩
theorem RowsOK.set {base gN gR n:Nat} {vs:List Value} {acc:List (List Int)} {w:World} (h:RowsOK base gN gR n vs acc w) (i:Nat) (u:Value):RowsOK base gN gR n vs acc (w.setCell ⟨gR,i,none⟩ u):=by
 obtain ⟨cs,hs⟩:=h.rs;exact ⟨blk_far h.r (blk_ne h.r hs (by decide)) _,h.lv,h.la,fun j hj=>own_setCell (h.own j hj) (own_ne (h.own j hj) hs (by decide)) _,_,blk_set hs i u⟩
theorem RowsOK.reads {base gN gR n:Nat} {vs:List Value} {acc:List (List Int)} {w:World} (h:RowsOK base gN gR n vs acc w) (hn:n ≤ 9223372036854775807):Kd.C (Kd.slice 3 (Kd.int .i64)) w (some ⟨gN,0,none⟩) n acc:=by
 refine ⟨h.la,hn,fun _=>⟨_,rfl,fun j p hj=>?_⟩⟩;obtain ⟨hl,hp⟩:=List.getElem?_eq_some_iff.1 hj;have hjn:j < n:=by rw [← h.la];exact hl
 have ho:=h.own j hjn;have e:acc.getD j [] = p:=by rw [List.getD_eq_getElem?_getD,hj];rfl
 rw [e] at ho;obtain ⟨A,c,ev,hc,hr⟩:=own_reads_of_le (enc:=Value.int .i64) (d:=(0:Int)) ho;refine ⟨[vs.getD j (.slice none 0 0)],rfl,⟨A,c,by rw [ev],hc,Kd.C_of_reads hr⟩,fun i u hu=>?_⟩;cases i with
 | succ i=>simp at hu
 | zero =>
  simp only [List.getElem?_cons_zero,Option.some.injEq] at hu;subst hu;have:((⟨gN,0,none⟩:Addr).add (j * 1 + 0)) = ⟨gN,j,none⟩:=by simp [Addr.add];exact fun h=>h.symm
  show w.cell? ((⟨gN,0,none⟩:Addr).add (j * 1 + 0)) = _;rw [this,zI h.r];have:j < vs.length:=by rw [h.lv];exact hjn
  simp [this]
theorem turn_bound (next:List (List Int)) (t j:Nat) (ht:t < next.length):tot (turnRow (t:Int) (turnAll next (List.replicate next.length []) (List.range t)) ((zAE next (t:Int)).take j)) ≤ tot next:=by
 have h1:=tot_row (t:Int) ((zAE next (t:Int)).take j) (turnAll next (List.replicate next.length []) (List.range t));have h2:=tot_all next (List.range t) (List.replicate next.length []);have h3:tot (List.replicate next.length ([]:List Int)) = 0:=by simp [tot]
 have h4:=range_sum next;have h5:∀ (f:Nat → Nat) (m:Nat),((List.range t).map f).sum + f t ≤ ((List.range (t + 1 + m)).map f).sum:=by
  intro f m;induction m with
  | zero=>rw [Nat.add_zero,List.range_succ];simp
  | succ m ih=>rw [← Nat.add_assoc,List.range_succ];simp only [List.map_append,List.sum_append];omega
 have h6:=h5 (fun i=>(zAE next (i:Int)).length) (next.length - (t + 1));rw [show t + 1 + (next.length - (t + 1)) = next.length by omega,h4] at h6;have h7:((zAE next (t:Int)).take j).length ≤ (zAE next (t:Int)).length:=by rw [zt];omega
 omega
theorem turn_step (next:List (List Int)) (i:Int) (A:List (List Int)) (row:List Int) (j q:Nat) (hj:j < row.length) (hq:rd row (j:Int) = (q:Int)):turnRow i A (row.take (j + 1)) = (turnRow i A (row.take j)).set q ((turnRow i A (row.take j)).getD q [] ++ [i]):=by
 rw [List.take_succ_eq_append_getElem hj];have e:row[j] = (q:Int):=by rw [← hq];unfold rd;rw [Int.toNat_natCast,List.getD_eq_getElem?_getD,List.getElem?_eq_getElem hj];rfl
 rw [e];unfold turnRow;rw [List.foldl_append];rfl
theorem turn_next (next:List (List Int)) (A:List (List Int)) (t:Nat):turnRow (t:Int) (turnAll next A (List.range t)) (zAE next (t:Int)) = turnAll next A (List.range (t + 1)):=by
 rw [List.range_succ];unfold turnAll;rw [List.foldl_append];rfl
set_option maxHeartbeats 4000000 in
set_option maxRecDepth 100000 in
theorem turned_calls (A0_0:Option Addr) (c0_0:Nat) (l0_0:List S63) (a0_1:Int) (A0_2:Option Addr) (c0_2:Nat) (next:List (List Int)) (v3 v4:Value) (w:World) (n:Nat) (hr0_0:Kd.C k63 w A0_0 n l0_0) (hr0_2:Kd.C (Kd.slice 3 (Kd.int .i64)) w A0_2 n next) (hc:n ≤ c0_0∧n ≤ c0_2) (hn:n ≤ 20000) (hN:next.length = n) (hin:∀ a,∀ b ∈ zAE next a,0 ≤ b∧b < (n:Int)) (ht:tot next ≤ 1048576) :
  Calls Try.prog 31 #[.agg #[.slice A0_0 n c0_0,.int .i64 a0_1,.slice A0_2 n c0_2,v3,v4]] w fun e w'=>∃ gN:Nat,e = .returned (.agg #[.slice A0_0 n c0_0,.int .i64 0,.slice (some ⟨gN,0,none⟩) n n,.slice none 0 0,.int .i64 0])∧Kd.C (Kd.slice 3 (Kd.int .i64)) w' (some ⟨gN,0,none⟩) n (turnS next)∧Below w.heap.size w w':=by
 have hu33:=Try.underlying26;have HR0:=zA hr0_0;have HR2:=zA hr0_2;have HC:=zA hc;have HNn:=zA hn;have HNl:=zA hN;have HI:=zA hin;have HT:=zA ht;clear hr0_0 hr0_2 hc hn hN hin ht;go_enter Try.func31,Try.ntmps31;go_upto_region 1 with (first|((with_reducible refine zV (N:=1) rfl ?_);refine bq 1 (cs:=#[.slice A0_0 n c0_0,.int .i64 a0_1,.slice A0_2 n c0_2,v3,v4]) (t:=26) ?_;intro gb hg w1 hbox hb;have HB1:=zA hb;have HX1:=zA hbox;have k0:w1.cell? ⟨gb,0,none⟩ = some (.slice A0_0 n c0_0):=zI hbox 0;have k2:w1.cell? ⟨gb,2,none⟩ = some (.slice A0_2 n c0_2):=zI hbox 2;clear hb hbox hg));have hmade:madeCells #[Value.slice none 0 0] n = Array.replicate n (Value.slice none 0 0):=by
  apply Array.ext';simp [madeCells];apply List.ext_getElem
  ·simp
  ·intro i h1 h2;simp [Nat.mod_one]
 have hmk:∀ W:World,(Instr.makeSlice 23 (.int .i64 (n:Int)) (.int .i64 (n:Int))).run Try.prog W = .ok (.slice (some ⟨W.heap.size,0,none⟩) n n) (W.alloc (.cells (Array.replicate n (Value.slice none 0 0)) 24)):=by
  intro W;obtain ⟨i0,hi0,hz0,hz1,hz2⟩:=info_parts info24;have:=run_make (P:=Try.prog) W 23 24 i0 (.slice none 0 0) Try.underlying23 hi0 hz0 .i64 .i64 (n:Int) (n:Int) (by omega) (by omega) (by rw [hz2];have:=HNn.out;omega) (qo HNn);rw [Int.toNat_natCast,hz1,Nat.mul_one] at this;rw [this,← hmade];rfl
 obtain ⟨w2,hw2⟩:∃ w2,w2 = w1.alloc (.cells #[.slice none 0 0,.int .i64 0,.slice none 0 0,.slice none 0 0,.int .i64 0] 26):=⟨_,rfl⟩;have HX2:=zA (show w2.heap[gb]? = some (.cells #[.slice A0_0 n c0_0,.int .i64 a0_1,.slice A0_2 n c0_2,v3,v4] 26) by rw [hw2];exact zK HX1.out _);have HB2:=zA (show Below w.heap.size w w2 by rw [hw2];exact zD HB1.out _);have HRS:=zA (show w2.heap[w1.heap.size]? = some (.cells #[.slice none 0 0,.int .i64 0,.slice none 0 0,.slice none 0 0,.int .i64 0] 26) by rw [hw2];exact heap_new w1 _);have HW1:=zA HB1.out.size;obtain ⟨gR,hgR⟩:∃ gR,gR = w1.heap.size:=⟨_,rfl⟩;rw [← hgR] at HRS HW1;rw [← hw2,← hgR];clear hw2 hgR k0 k2 HX1 HB1;have k0:w2.cell? ⟨gb,0,none⟩ = some (.slice A0_0 n c0_0):=zI HX2.out 0;have kz:(w2.alloc (Obj.cells #[Value.slice none 0 0,Value.int IntKind.i64 0,Value.slice none 0 0,Value.slice none 0 0,Value.int IntKind.i64 0] 26)).cell? ⟨gb,0,none⟩ = some (.slice A0_0 n c0_0):=zI (zK HX2.out _) 0;have km:(w2.alloc (Obj.cells (Array.replicate n (Value.slice none 0 0)) 24)).cell? ⟨gb,0,none⟩ = some (.slice A0_0 n c0_0):=zI (zK HX2.out _) 0;have kzm:((w2.alloc (Obj.cells #[Value.slice none 0 0,Value.int IntKind.i64 0,Value.slice none 0 0,Value.slice none 0 0,Value.int IntKind.i64 0] 26)).alloc (Obj.cells (Array.replicate n (Value.slice none 0 0)) 24)).cell? ⟨gb,0,none⟩ = some (.slice A0_0 n c0_0):=zI (zK (zK HX2.out _) _) 0;have kmz:((w2.alloc (Obj.cells (Array.replicate n (Value.slice none 0 0)) 24)).alloc (Obj.cells #[Value.slice none 0 0,Value.int IntKind.i64 0,Value.slice none 0 0,Value.slice none 0 0,Value.int IntKind.i64 0] 26)).cell? ⟨gb,0,none⟩ = some (.slice A0_0 n c0_0):=zI (zK (zK HX2.out _) _) 0;go_cut [3] (fun v3_ wc=>∃ gT gN:Nat,v3_ = .pointer (some ⟨gT,0,none⟩)∧Aside0 (TurnOK w.heap.size gT gN gR gb n (.slice A0_0 n c0_0) #[.slice A0_0 n c0_0,.int .i64 a0_1,.slice A0_2 n c0_2,v3,v4] (List.replicate n (.slice none 0 0)) (List.replicate n []) wc)∧Aside0 (Below w.heap.size w wc))
 case first =>
  go_region;all_goals (go_wp2_with fail;go_meet)
  ·refine ⟨w2.heap.size + 1,w2.heap.size,rfl,⟨(turn_start (w:=_) ?_ ?_ ?_ ?_ ?_).drew⟩,⟨(zD (zD HB2.out _) _).drew⟩⟩
   ·have:=heap_new (w2.alloc (.cells (Array.replicate n (Value.slice none 0 0)) 24)) (Obj.cells #[Value.slice A0_0 n c0_0,Value.int IntKind.i64 0,Value.slice (some { block:=w2.heap.size,off:=0 }) n n,Value.slice none 0 0,Value.int IntKind.i64 0] 26);rwa [size_alloc] at this
   ·exact zK (heap_new w2 _) _
   ·exact zK (zK HRS.out _) _
   ·exact zK (zK HX2.out _) _
   ·have:=HB2.out.size;omega
  ·refine ⟨w2.heap.size,w2.heap.size + 1,rfl,⟨(turn_start (w:=_) ?_ ?_ ?_ ?_ ?_).drew⟩,⟨(zD (zD HB2.out _) _).drew⟩⟩
   ·exact zK (heap_new w2 _) _
   ·have:=heap_new (w2.alloc (Obj.cells #[Value.slice A0_0 n c0_0,Value.int IntKind.i64 0,Value.slice (some { block:=w2.heap.size + 1,off:=0 }) n n,Value.slice none 0 0,Value.int IntKind.i64 0] 26)) (.cells (Array.replicate n (Value.slice none 0 0)) 24);rwa [size_alloc] at this
   ·exact zK (zK HRS.out _) _
   ·exact zK (zK HX2.out _) _
   ·have:=HB2.out.size;omega
 case rest =>
  clear kz km kzm kmz k0 HX2 HRS HB2 hmk hmade;obtain ⟨gT,gN,rfl,HS,HB⟩:=hcut;have HMK:=zA HNn.out;go_wp2;go_loopg [4] (n + 1) (fun kq v4_ w'=>∃ (t:Nat) (vs:List Value),v4_ = .int .i64 (t:Int)∧Aside0 (kq + t = n + 1∧t ≤ n)∧Aside0 (TurnOK w.heap.size gT gN gR gb n (.slice A0_0 n c0_0) #[.slice A0_0 n c0_0,.int .i64 a0_1,.slice A0_2 n c0_2,v3,v4] vs (turnAll next (List.replicate n []) (List.range t)) w')∧Aside0 (Below w.heap.size w w'))
  case atStart=>exact ⟨0,_,rfl,⟨rfl,Nat.zero_le _⟩,HS,HB⟩
  case round =>
   clear HS HB;obtain ⟨t,vs,rfl,HTt,HS,HB⟩:=hrel;have k2:wr.cell? ⟨gb,2,none⟩ = some (.slice A0_2 n c0_2):=zI HS.out.bb 2;have htb:(t:Int) ≤ 20000:=by have:=HTt.out;have:=HNn.out;omega
   by_cases ht:t < n
   ·have HRL:=zA (show (zAE next (t:Int)).length ≤ 1048576 from by
     have h2:=row_tot next (zAE next (t:Int)) (by unfold zAE;rw [Int.toNat_natCast,List.getD_eq_getElem?_getD,List.getElem?_eq_getElem (by rw [HNl.out];exact ht)];exact List.getElem_mem _);have:=HT.out
     omega)
    have hd:decide ((t:Int) < (n:Int)) = true:=zQ (by omega);have hd4:decide (t < n) = true:=zQ ht;have hR:=zT HR2.out HB.out;obtain ⟨ad2,A3,c3,ea2,kr,hl3,hr3⟩:=zAW hR (t:Int) (by omega) (qo HNl);subst ea2;go_wp2;clear hd hd4 hR kr hl3 hr3 k2 A3 c3;go_loopg [5] ((zAE next (t:Int)).length + 1) (fun kq v5_ w'=>∃ (j:Nat) (vs:List Value),v5_ = .int .i64 (j:Int)∧Aside0 (kq + j = (zAE next (t:Int)).length + 1∧j ≤ (zAE next (t:Int)).length)∧Aside0 (TurnOK w.heap.size gT gN gR gb n (.slice A0_0 n c0_0) #[.slice A0_0 n c0_0,.int .i64 a0_1,.slice (some ad2) n c0_2,v3,v4] vs (turnRow (t:Int) (turnAll next (List.replicate n []) (List.range t)) ((zAE next (t:Int)).take j)) w')∧Aside0 (Below w.heap.size w w'))
    case atStart=>exact ⟨0,vs,rfl,⟨rfl,Nat.zero_le _⟩,HS,HB⟩
    case round =>
     clear HS HB;obtain ⟨j,vs,rfl,HJ,HS,HB⟩:=hrel;have hR:=zT HR2.out HB.out;obtain ⟨ad3,A3,c3,ea3,kr,hl3,hr3⟩:=zAW hR (t:Int) (by omega) (qo HNl);injection ea3 with ea3;subst ea3;rw [Int.toNat_natCast] at kr;have k2:=zI HS.out.bb 2;change wr.cell? ⟨gb,2,none⟩ = some (.slice (some ad2) n c0_2) at k2;have p1:(0 ≤ (t:Int)) = True:=qT (by omega);have p2:((t:Int) < (n:Int)) = True:=qT (by omega);have p3:decide ((t:Int) < (n:Int)) = true:=zQ (by omega);by_cases hj:j < (zAE next (t:Int)).length
     ·have hd:decide ((j:Int) < ((zAE next (t:Int)).length:Int)) = true:=zQ (by omega);have hd4:decide (j < (zAE next (t:Int)).length) = true:=zQ hj;have q1:(0 ≤ (j:Int)) = True:=qT (by omega);have q2:((j:Int) < ((zAE next (t:Int)).length:Int)) = True:=qT (by omega);obtain ⟨ad4,ea4,kj⟩:=Kd.at_int hr3 (j:Int) (by omega) (by omega);subst ea4;have kT:=zI HS.out.b 2;change wr.cell? ⟨gT,2,none⟩ = some (.slice (some ⟨gN,0,none⟩) n n) at kT;obtain ⟨q,hq⟩:∃ q:Nat,rd (zAE next (t:Int)) (j:Int) = (q:Int)∧q < n:=by
       have hm:rd (zAE next (t:Int)) (j:Int) ∈ zAE next (t:Int):=by
        unfold rd;rw [Int.toNat_natCast,List.getD_eq_getElem?_getD,List.getElem?_eq_getElem hj];exact List.getElem_mem hj
       have:=HI.out _ _ hm;exact ⟨(rd (zAE next (t:Int)) (j:Int)).toNat,by omega,by omega⟩
      rw [hq.1,Int.toNat_natCast] at kj;have kq:=HS.out.cell hq.2;have r1:(0 ≤ (q:Int)) = True:=qT (by omega);have r2:((q:Int) < (n:Int)) = True:=qT (by omega);obtain ⟨acc,hacc⟩:∃ acc,acc = turnRow (t:Int) (turnAll next (List.replicate n []) (List.range t)) ((zAE next (t:Int)).take j):=⟨_,rfl⟩;have HST:=zA (turn_step next (t:Int) (turnAll next (List.replicate n []) (List.range t)) (zAE next (t:Int)) j q hj hq.1);rw [← hacc] at HS HST;have HBD:=zA (show (acc.getD q []).length ≤ 1048576 from by
       have h1:tot acc ≤ tot next:=by rw [hacc];have:=turn_bound next t j (by rw [HNl.out];exact ht);rw [HNl.out] at this;exact this
       have h2:=row_tot acc (acc.getD q []) (by rw [List.getD_eq_getElem?_getD,List.getElem?_eq_getElem (by rw [HS.out.la];exact hq.2)];exact List.getElem_mem _);have:=HT.out
       omega)
      clear hacc;have HSA:=zA (HS.out.alloc (Obj.cells #[.int .i64 (t:Int)] 3)).drew;have HBA:=zA (zD HB.out (Obj.cells #[.int .i64 (t:Int)] 3)).drew;go_upto_region 9 with fail;have kTa:(wr.alloc (.cells #[.int .i64 (t:Int)] 3)).cell? ⟨gT,2,none⟩ = some (.slice (some ⟨gN,0,none⟩) n n):=zI (zK HS.out.b _) 2;have kqa:(wr.alloc (.cells #[.int .i64 (t:Int)] 3)).cell? ⟨gN,q,none⟩ = some (vs.getD q (.slice none 0 0)):=by
       rw [← kq];exact (zI (zK HS.out.r _) q).trans (zI HS.out.r q).symm
      have hoq:=HSA.out.own q hq.2;obtain ⟨vq,hvq⟩:∃ vq,vq = vs.getD q (.slice none 0 0):=⟨_,rfl⟩;rw [← hvq] at hoq kq kqa;have HVQ:=zA hvq;have HQ:=zA hq;clear hvq;obtain ⟨i0,hi0,hz0,hz1,hz2⟩:=info_parts info3;obtain ⟨v1,w1,hrun,ho1,hg1,_,hat1⟩:=run_append_own_at (P:=Try.prog) (w:=(wr.alloc (.cells #[.int .i64 (t:Int)] 3)).drew) w.heap.size 24 24 3 i0 (.int .i64 0) 1 8 Try.underlying24 hi0 hz0 hz1 hz2 rfl (by decide) _ _ _ hoq ⟨wr.heap.size,0,none⟩ 1 1 [.int .i64 (t:Int)] rfl (fun j u hj=>cell_one_new _ _ _ j u hj) (by simp [Value.oneCell']) (by have:=HBD.out;unfold maxLen;omega) (qo HBD) HBA.out.size;obtain ⟨A1,c1,rfl⟩:=own_slice ho1;have hneN:some gN ≠ vq.ownBlock:=own_ne hoq HSA.out.r (by decide);have kN1:w1.cell? ⟨gN,q,none⟩ = some vq:=by
       rw [zI (blk_grown HSA.out.r hg1 hneN) q,← kqa];exact (zI (zK HS.out.r _) q).symm
      have zN1:w1.frozen? ⟨gN,q,none⟩ = false:=zJ (blk_grown HSA.out.r hg1 hneN) q;have kT1:w1.cell? ⟨gT,2,none⟩ = some (.slice (some ⟨gN,0,none⟩) n n):=zI (blk_grown HSA.out.b hg1 (own_ne hoq HSA.out.b (by decide))) 2;have HPUT:=zA (HSA.out.put (q:=q) hq.2 (i:=(t:Int)) (w1:=w1) (v1:=.slice A1 ((acc.getD q []).length + 1) c1) (by
       have h:=ho1;simp only [List.length_append,List.length_singleton,nums,List.map_append,zy,zz] at h ⊢
       exact h) (by rw [← HVQ.out];exact hg1) (by
       rw [← HVQ.out];rcases hat1 with h|h
       ·exact .inl h
       ·exact .inr ⟨_,h,Nat.le_refl _⟩))
      have HBG:=zA (pw_below_grown HBA.out vq.ownBlock HBA.out.size hg1 (own_low hoq));rw [← HST.out] at HPUT;clear ho1 hg1 hat1 hi0 hz0 hz1 hz2 hneN kj kr k2 HST;have HOQ:=zA hoq;clear hoq;obtain ⟨Aq,cq,rfl⟩:=own_slice HOQ.out;have hrun2:=hrun;simp [go_sem,Builtin.append_] at hrun2;have hjb:(j:Int) ≤ 1048576:=by have:=HRL.out;omega
      go_region;have HP2:=zA (HBG.out.setCell HPUT.out.bd.2 (p:=⟨gN,q,none⟩) (Value.slice A1 ((acc.getD q []).length + 1) c1));go_wp2_with fail;go_roundg ((zAE next (t:Int)).length - j)
      case measure=>have:=HJ.out;omega
      case rel=>exact ⟨j + 1,_,by go_num,⟨qo HJ⟩,HPUT,HP2⟩
     ·have hje:j = (zAE next (t:Int)).length:=by have:=HJ.out;omega
      subst hje;have hd:decide (((zAE next (t:Int)).length:Int) < ((zAE next (t:Int)).length:Int)) = false:=zR (by omega);have hS2:=HS.out;rw [List.take_of_length_le (Nat.le_refl _),turn_next] at hS2;have HS2:=zA hS2;clear hS2;go_wp2_with fail;go_roundg (n - t)
      case measure=>have:=HTt.out;omega
      case rel=>exact ⟨t + 1,_,by go_num,⟨qo HTt⟩,HS2,HB⟩
   ·have hte:t = n:=by have:=HTt.out;omega
    subst hte;have e0:=zI HS.out.b 0;have e1:=zI HS.out.b 1;have e2:=zI HS.out.b 2;have e3:=zI HS.out.b 3;have e4:=zI HS.out.b 4;change wr.cell? ⟨gT,0,none⟩ = some (.slice A0_0 t c0_0) at e0;change wr.cell? ⟨gT,1,none⟩ = some (.int .i64 0) at e1;change wr.cell? ⟨gT,2,none⟩ = some (.slice (some ⟨gN,0,none⟩) t t) at e2;change wr.cell? ⟨gT,3,none⟩ = some (.slice none 0 0) at e3;change wr.cell? ⟨gT,4,none⟩ = some (.int .i64 0) at e4;have r0:=zI HS.out.rs 0;have r1:=zI HS.out.rs 1;have r2:=zI HS.out.rs 2;have r3:=zI HS.out.rs 3;have r4:=zI HS.out.rs 4;change wr.cell? ⟨gR,0,none⟩ = some (.slice none 0 0) at r0;change wr.cell? ⟨gR,1,none⟩ = some (.int .i64 0) at r1;change wr.cell? ⟨gR,2,none⟩ = some (.slice none 0 0) at r2;change wr.cell? ⟨gR,3,none⟩ = some (.slice none 0 0) at r3;change wr.cell? ⟨gR,4,none⟩ = some (.int .i64 0) at r4;have z0:=zJ HS.out.rs 0;have z1:=zJ HS.out.rs 1;have z2:=zJ HS.out.rs 2;have z3:=zJ HS.out.rs 3;have z4:=zJ HS.out.rs 4;go_wp2_with fail;refine bodyPost_ret (v:=.agg #[.slice A0_0 t c0_0,.int .i64 0,.slice (some ⟨gN,0,none⟩) t t,.slice none 0 0,.int .i64 0]) ?_ rfl ⟨gN,rfl,?_,?_⟩
    ·simp [results,Try.results31,go_sem,r0,r1,r2,r3,r4]
    ·have h:=((((((HS.out.rows).set 0 (.slice A0_0 t c0_0)).set 1 (.int .i64 0)).set 2 (.slice (some ⟨gN,0,none⟩) t t)).set 3 (.slice none 0 0)).set 4 (.int .i64 0)).reads (by omega);have e:turnAll next (List.replicate t []) (List.range t) = turnS next:=by unfold turnS;rw [HNl.out]
     rw [← e];exact h
    ·exact ((((HB.out.setCell (p:=⟨gR,0,none⟩) HW1.out _).setCell (p:=⟨gR,1,none⟩) HW1.out _).setCell (p:=⟨gR,2,none⟩) HW1.out _).setCell (p:=⟨gR,3,none⟩) HW1.out _).setCell (p:=⟨gR,4,none⟩) HW1.out _
theorem turned_calls2 (A0_0:Option Addr) (c0_0:Nat) (l0_0:List S63) (a0_1:Int) (A0_2:Option Addr) (c0_2:Nat) (next:List (List Int)) (v3 v4:Value) (w:World) (hr0_0:Kd.C k63 w A0_0 l0_0.length l0_0) (hr0_2:Kd.C (Kd.slice 3 (Kd.int .i64)) w A0_2 next.length next) (hc0:l0_0.length ≤ c0_0) (hc2:next.length ≤ c0_2) (hN:next.length = l0_0.length) (hn:l0_0.length ≤ 20000) (hin:∀ a,∀ b ∈ zAE next a,0 ≤ b∧b < (l0_0.length:Int)) (ht:tot next ≤ 1048576) :
  Calls Try.prog 31 #[.agg #[.slice A0_0 l0_0.length c0_0,.int .i64 a0_1,.slice A0_2 next.length c0_2,v3,v4]] w fun e w'=>∃ gN:Nat,e = .returned (.agg #[.slice A0_0 l0_0.length c0_0,.int .i64 0,.slice (some ⟨gN,0,none⟩) (turnS next).length (turnS next).length,.slice none 0 0,.int .i64 0])∧Kd.C (Kd.slice 3 (Kd.int .i64)) w' (some ⟨gN,0,none⟩) (turnS next).length (turnS next)∧Below w.heap.size w w':=by
 have e:=(Go.Proofs.Ytkcghbfmigdomaa.Pure.turnS_len next).trans hN;rw [e,hN];rw [hN] at hr0_2 hc2;exact turned_calls A0_0 c0_0 l0_0 a0_1 A0_2 c0_2 next v3 v4 w l0_0.length hr0_0 hr0_2 ⟨hc0,hc2⟩ hn hN hin ht
def zAL.f (k:Nat) (l0_0:List (S63)) (a0_1:Int) (l0_2:List (List Int)) (l0_3:List Int) (a0_4:Int):Option (List Int × Int):=(zAD.f k l0_0 a0_1 l0_2 l0_3 a0_4).bind fun e=>if e = 0 then (if rowsOK l0_0.length l0_2 = true∧tot l0_2 ≤ 1048576 then ((partsOfL (turnS l0_2) l0_0 a0_1 l0_2 l0_3 a0_4 k (List.replicate l0_0.length (-1)) 0).bind fun p=>some (p,0)) else none) else some ([],e)
theorem partsOfL_mono (back:List (List Int)) (spots:List S63) (init:Int) (next:List (List Int)) (sets:List Int) (many:Int):∀ k part i,LeO (partsOfL back spots init next sets many k part i) (partsOfL back spots init next sets many (k + 1) part i)
 | 0,_,_=>fun r h=>by simp [partsOfL] at h
 | k + 1,part,i=>by
  have ih:=partsOfL_mono back spots init next sets many k
  unfold partsOfL
  refine LeO.ite (LeO.ite (LeO.ite (ih _ _) (LeO.bind (zAB.mono _ _ _ _ _ _ k) fun a=>LeO.bind (zAB.mono _ _ _ _ _ _ k) fun b=>LeO.ite (ih _ _) (LeO.none _))) (LeO.none _)) (LeO.refl _)
theorem zAL.mono:∀ a0 a1 a2 a3 a4 k,LeO (zAL.f k a0 a1 a2 a3 a4) (zAL.f (k + 1) a0 a1 a2 a3 a4):=by
 intro a0 a1 a2 a3 a4 k;unfold zAL.f;exact LeO.bind (zAD.mono _ _ _ _ _ k) fun e=>LeO.ite (LeO.ite (LeO.bind (partsOfL_mono _ _ _ _ _ _ k _ _) fun _=>LeO.refl _) (LeO.none _)) (LeO.refl _)
theorem one_reads (W:World) (x:Int):Kd.C (Kd.int .i64) (W.alloc (.cells #[.int .i64 x] 3)) (some ⟨W.heap.size,0,none⟩) [x].length [x] :=
 Kd.C_of_reads (d:=(0:Int)) ⟨rfl,by simp,fun _=>⟨_,rfl,fun j hj=>by
  have:j = 0:=by simp at hj;exact hj
  subst this
  exact cell_one_new W (.int .i64 x) 3 0 _ rfl⟩⟩
theorem from1_calls (k:Nat) (A0_0:Option Addr) (c0_0:Nat) (l0_0:List (S63)) (a0_1:Int) (A0_2:Option Addr) (c0_2:Nat) (l0_2:List (List Int)) (A0_3:Option Addr) (c0_3:Nat) (l0_3:List Int) (a0_4:Int) (x:Int) (r:List Bool) (W:World) (hr0_0:Kd.C k63 W A0_0 l0_0.length l0_0) (hc0_0:l0_0.length ≤ c0_0) (hr0_2:Kd.C (Kd.slice 3 (Kd.int .i64)) W A0_2 l0_2.length l0_2) (hc0_2:l0_2.length ≤ c0_2) (hr0_3:Kd.C (Kd.int .i64) W A0_3 l0_3.length l0_3) (hc0_3:l0_3.length ≤ c0_3) (h:zAB.f k l0_0 a0_1 l0_2 l0_3 a0_4 [x] = some r) :
  Calls Try.prog 32 #[.agg #[.slice A0_0 l0_0.length c0_0,.int .i64 a0_1,.slice A0_2 l0_2.length c0_2,.slice A0_3 l0_3.length c0_3,.int .i64 a0_4],.slice (some ⟨W.heap.size,0,none⟩) 1 1] (W.alloc (.cells #[.int .i64 x] 3)) fun e w'=>∃ A c,e = .returned (.slice A r.length c)∧Kd.R Kd.bool 4 w' 0 (fun _=>True) (.slice A r.length c) r∧Below W.heap.size W w' :=
 (zAB.calls k A0_0 c0_0 l0_0 a0_1 A0_2 c0_2 l0_2 A0_3 c0_3 l0_3 a0_4 _ 1 [x] r _ (Kd.C_alloc hr0_0 _) hc0_0 (Kd.C_alloc hr0_2 _) hc0_2 (Kd.C_alloc hr0_3 _) hc0_3 (one_reads W x) (Nat.le_refl 1) h).mono fun e w' ⟨v,he,ho,hb⟩=>by
  obtain ⟨A,c,rfl⟩:=Kd.R_slice ho
  exact ⟨A,c,he,Kd.R_lower ho (Nat.zero_le _),(zD (Below.refl _ _) _).trans (hb.mono (by simp))⟩
theorem from2_calls (k:Nat) (A0_0:Option Addr) (c0_0:Nat) (l0_0:List (S63)) (A0_2:Option Addr) (l0_2:List (List Int)) (x:Int) (r:List Bool) (W:World) (hr0_0:Kd.C k63 W A0_0 l0_0.length l0_0) (hc0_0:l0_0.length ≤ c0_0) (hr0_2:Kd.C (Kd.slice 3 (Kd.int .i64)) W A0_2 l0_2.length l0_2) (h:zAB.f k l0_0 0 l0_2 [] 0 [x] = some r) :
  Calls Try.prog 32 #[.agg #[.slice A0_0 l0_0.length c0_0,.int .i64 0,.slice A0_2 l0_2.length l0_2.length,.slice none 0 0,.int .i64 0],.slice (some ⟨W.heap.size,0,none⟩) 1 1] (W.alloc (.cells #[.int .i64 x] 3)) fun e w'=>∃ A c,e = .returned (.slice A r.length c)∧Kd.R Kd.bool 4 w' 0 (fun _=>True) (.slice A r.length c) r∧Below W.heap.size W w' :=
 from1_calls k A0_0 c0_0 l0_0 0 A0_2 l0_2.length l0_2 none 0 [] 0 x r W hr0_0 hc0_0 hr0_2 (Nat.le_refl _) (Kd.C_nil _ _) (Nat.le_refl 0) h
set_option maxHeartbeats 4000000 in
set_option maxRecDepth 100000 in
theorem zAL.calls (k:Nat) (A0_0:Option Addr) (c0_0:Nat) (l0_0:List (S63)) (a0_1:Int) (A0_2:Option Addr) (c0_2:Nat) (l0_2:List (List Int)) (A0_3:Option Addr) (c0_3:Nat) (l0_3:List Int) (a0_4:Int) (r1:List Int) (r2:Int) (w:World) (hr0_0:Kd.C k63 w A0_0 l0_0.length l0_0) (hc0_0:l0_0.length ≤ c0_0) (hr0_2:Kd.C (Kd.slice 3 (Kd.int .i64)) w A0_2 l0_2.length l0_2) (hc0_2:l0_2.length ≤ c0_2) (hr0_3:Kd.C (Kd.int .i64) w A0_3 l0_3.length l0_3) (hc0_3:l0_3.length ≤ c0_3) (h:zAL.f k l0_0 a0_1 l0_2 l0_3 a0_4 = some (r1,r2)) :
  Calls Try.prog 19 #[.agg #[.slice A0_0 l0_0.length c0_0,.int .i64 a0_1,.slice A0_2 l0_2.length c0_2,.slice A0_3 l0_3.length c0_3,.int .i64 a0_4]] w fun e w'=>∃ v0_:Value,e = .returned (.tuple #[v0_,.int .i64 r2])∧Kd.R (Kd.int .i64) 3 w' w.heap.size (fun _=>True) v0_ r1∧Below w.heap.size w w':=by
 have hu33:=Try.underlying26;have HR0_0:=zA hr0_0;have HR0_2:=zA hr0_2;have HR0_3:=zA hr0_3;have HC0_0:=zA hc0_0;have HC0_2:=zA hc0_2;have HC0_3:=zA hc0_3;clear hr0_0 hr0_2 hr0_3 hc0_0 hc0_2 hc0_3;unfold zAL.f at h;replace h:=zb.mp h;obtain ⟨e0,A2,h⟩:=h;have HA2:=zA A2;have HH:=zA h;clear A2 h;go_enter Try.func19,Try.ntmps19;go_upto_region 2 with (first|((with_reducible refine zV (N:=1) rfl ?_);refine bq 1 (cs:=#[.slice A0_0 l0_0.length c0_0,.int .i64 a0_1,.slice A0_2 l0_2.length c0_2,.slice A0_3 l0_3.length c0_3,.int .i64 a0_4]) (t:=26) ?_;intro gb hg w1 hbox hb;have HB1:=zA hb;have HG1:=zA (show w.heap.size ≤ gb by rw [hg];exact Nat.le_refl _);have HX1:=zA hbox;have k0:w1.cell? ⟨gb,0,none⟩ = some (.slice A0_0 l0_0.length c0_0):=zI hbox 0;have k1:w1.cell? ⟨gb,1,none⟩ = some (.int .i64 a0_1):=zI hbox 1;have k2:w1.cell? ⟨gb,2,none⟩ = some (.slice A0_2 l0_2.length c0_2):=zI hbox 2;have k3:w1.cell? ⟨gb,3,none⟩ = some (.slice A0_3 l0_3.length c0_3):=zI hbox 3;have k4:w1.cell? ⟨gb,4,none⟩ = some (.int .i64 a0_4):=zI hbox 4;clear hb hbox hg)|(go_at_call 30;(with_reducible refine (zAD.calls k _ _ l0_0 a0_1 _ _ l0_2 _ _ l0_3 a0_4 e0 _ (zT HR0_0.out HB1.out) HC0_0.out (zT HR0_2.out HB1.out) HC0_2.out (zT HR0_3.out HB1.out) HC0_3.out HA2.out).mono ?_);rintro e w2 ⟨rfl,hb⟩;have hx:=zN HX1.out hb;have HX2:=zA hx;have HB2:=zA (zH HB1.out hb);clear k0 k1 k2 k3 k4;have k0:w2.cell? ⟨gb,0,none⟩ = some (.slice A0_0 l0_0.length c0_0):=zI hx 0;have k1:w2.cell? ⟨gb,1,none⟩ = some (.int .i64 a0_1):=zI hx 1;have k2:w2.cell? ⟨gb,2,none⟩ = some (.slice A0_2 l0_2.length c0_2):=zI hx 2;have k3:w2.cell? ⟨gb,3,none⟩ = some (.slice A0_3 l0_3.length c0_3):=zI hx 3;have k4:w2.cell? ⟨gb,4,none⟩ = some (.int .i64 a0_4):=zI hx 4;clear hb hx));clear HX1 HB1 HA2;by_cases he:e0 = 0
 case neg =>
  have q1:(e0 != 0) = true:=bne_iff_ne.2 he;have h:=HH.out;rw [if_neg he] at h;simp only [Option.some.injEq,Prod.mk.injEq] at h;obtain ⟨rfl,rfl⟩:=h;go_wp2;go_ret2;exact ⟨_,rfl,Kd.R_nil _ _ _ _ _,HB2.out⟩
 have q1:(e0 != 0) = false:=bne_eq_false_iff_eq.2 he;have h:=HH.out;rw [if_pos he] at h;clear HH;by_cases hn:rowsOK l0_0.length l0_2 = true∧tot l0_2 ≤ 1048576
 case neg=>rw [if_neg hn] at h;cases h
 rw [if_pos hn] at h;have HN:=zA (rows_parts hn.1);have HT:=zA hn.2;clear hn;replace h:=zb.mp h;obtain ⟨sr,h,hh⟩:=h;simp only [Option.some.injEq,Prod.mk.injEq] at hh;obtain ⟨rfl,rfl⟩:=hh;have HL0:=zA h;clear h;go_upto_region 5 with (first|(go_at_call 31;(with_reducible refine (turned_calls2 A0_0 c0_0 l0_0 a0_1 A0_2 c0_2 l0_2 (.slice A0_3 l0_3.length c0_3) (.int .i64 a0_4) _ (zT HR0_0.out HB2.out) (zT HR0_2.out HB2.out) HC0_0.out HC0_2.out HN.out.1 HN.out.2.1 (fun a=>(HN.out.2.2 a).2) HT.out).mono ?_);rintro e w5 ⟨gN,rfl,hC,hb⟩;have hx:=zN HX2.out hb;have HX5:=zA hx;have HB5:=zA (zH HB2.out hb);have HCT:=zA hC;clear k0 k1 k2 k3 k4;have k0:w5.cell? ⟨gb,0,none⟩ = some (.slice A0_0 l0_0.length c0_0):=zI hx 0;clear hb hx hC));obtain ⟨L,hLL⟩:∃ L,L = l0_0.length:=⟨_,rfl⟩;obtain ⟨gT,hgT⟩:∃ gT,gT = w5.heap.size:=⟨_,rfl⟩;obtain ⟨w6,hw6⟩:∃ w6,w6 = w5.alloc (.cells #[.slice A0_0 l0_0.length c0_0,.int .i64 0,.slice (some ⟨gN,0,none⟩) (turnS l0_2).length (turnS l0_2).length,.slice none 0 0,.int .i64 0] 26):=⟨_,rfl⟩;have HXT:=zA (show w6.heap[gT]? = some (.cells #[.slice A0_0 l0_0.length c0_0,.int .i64 0,.slice (some ⟨gN,0,none⟩) (turnS l0_2).length (turnS l0_2).length,.slice none 0 0,.int .i64 0] 26) by rw [hw6,hgT];exact heap_new w5 _);have HX6:=zA (show w6.heap[gb]? = some (.cells #[.slice A0_0 l0_0.length c0_0,.int .i64 a0_1,.slice A0_2 l0_2.length c0_2,.slice A0_3 l0_3.length c0_3,.int .i64 a0_4] 26) by rw [hw6];exact zK HX5.out _);have HB6:=zA (show Below w.heap.size w w6 by rw [hw6];exact zD HB5.out _);have HC6:=zA (show Kd.C (Kd.slice 3 (Kd.int .i64)) w6 (some ⟨gN,0,none⟩) (turnS l0_2).length (turnS l0_2) by rw [hw6];exact Kd.C_alloc HCT.out _);rw [← hw6,← hgT];clear hw6 hgT k0 HCT HX5 HB5 HX2 HB2;have k0:w6.cell? ⟨gb,0,none⟩ = some (.slice A0_0 l0_0.length c0_0):=zI HX6.out 0;have hL2:L ≤ 20000:=by rw [hLL];exact HN.out.2.1
 have HL2:=zA hL2;have hmk:∀ W:World,(Instr.makeSlice 24 (.int .i64 (L:Int)) (.int .i64 (L:Int))).run Try.prog W = .ok (.slice (some ⟨W.heap.size,0,none⟩) L L) (W.alloc (.cells (nums .i64 (List.replicate L 0)).toArray 3)):=by
  intro W;obtain ⟨i0,hi0,hz0,hz1,hz2⟩:=info_parts info3;have:=run_make (P:=Try.prog) W 24 3 i0 (.int .i64 0) Try.underlying24 hi0 hz0 .i64 .i64 (L:Int) (L:Int) (by omega) (by omega) (by rw [hz2];omega) (by omega);rw [Int.toNat_natCast,hz1,Nat.mul_one] at this;rw [this,← made_rep];rfl
 have HLL:=zA hLL;rw [← hLL] at k0;clear hLL;go_wp2;have HP0:=zA (heap_new w6 (Obj.cells (nums .i64 (List.replicate L 0)).toArray 3));have HBW0:=zA (show Below w6.heap.size w6 (w6.alloc (.cells (nums .i64 (List.replicate L 0)).toArray 3)) from zD (Below.refl _ _) _);obtain ⟨gP,hgP⟩:∃ gP,gP = w6.heap.size:=⟨_,rfl⟩;have HGP:=zA (show w6.heap.size ≤ gP by rw [hgP];exact Nat.le_refl _);rw [← hgP] at HP0 ⊢;clear hgP hmk k0;go_loopg [7] (L + 1) (fun kq v7_ w'=>∃ t:Nat,v7_ = .int .i64 (t:Int)∧Aside0 (kq + t = L + 1∧t ≤ L)∧Aside0 (w'.heap[gP]? = some (.cells (nums .i64 (List.replicate t (-1) ++ List.replicate (L - t) 0)).toArray 3 (0,0)))∧Aside0 (Below w6.heap.size w6 w'))
 case atStart=>exact ⟨0,rfl,⟨rfl,Nat.zero_le _⟩,HP0,HBW0⟩
 case round =>
  clear HP0 HBW0;obtain ⟨t,rfl,HTt,HP,HBW⟩:=hrel;by_cases ht:t < L
  ·have hd:decide ((t:Int) < (L:Int)) = true:=zQ (by omega);have hd2:((t:Int) < (L:Int)) = True:=qT (by omega);have hd4:decide (t < L) = true:=zQ ht;have hp:(0 ≤ (t:Int)) = True:=qT (by omega);have e1:IntKind.i64.wrap ((t:Int) + 1) = ((t + 1:Nat):Int):=by rw [IntKind.wrap_i64];have:=HL2.out;omega
   have kP:=nums_cell HP.out (t:Int) (by omega) (by rw [List.length_append,List.length_replicate,List.length_replicate];omega);rw [Int.toNat_natCast] at kP;have zP:wr.frozen? ⟨gP,t,none⟩ = false:=zJ HP.out _;have hpn:=blk_set HP.out t (.int .i64 (-1));rw [nums_put] at hpn;have HPn:=zA (show (wr.setCell ⟨gP,t,none⟩ (.int .i64 (-1))).heap[gP]? = some (.cells (nums .i64 (List.replicate (t + 1) (-1) ++ List.replicate (L - (t + 1)) 0)).toArray 3 (0,0)) by
    have e:(List.replicate t (-1) ++ List.replicate (L - t) 0:List Int).set t (-1) = List.replicate (t + 1) (-1) ++ List.replicate (L - (t + 1)) 0:=by
     rw [List.set_append_right _ _ (by simp),List.length_replicate,Nat.sub_self,show L - t = (L - (t + 1)) + 1 by omega,List.replicate_succ,zY,List.replicate_succ' (n:=t),List.append_assoc];rfl
    rw [← e]
    exact hpn)
   have HBn:=zA (HBW.out.setCell HGP.out (p:=⟨gP,t,none⟩) (.int .i64 (-1)));have HTn:=zA (show (L - t + (t + 1) = L + 1∧t + 1 ≤ L)∧L - t < gk by have:=HTt.out;omega);clear HP HBW ht hpn;go_wp2;go_roundg (L - t)
   case measure=>exact HTn.out.2
   case rel=>exact ⟨t + 1,rfl,⟨HTn.out.1⟩,HPn,HBn⟩
  have hd:decide ((t:Int) < (L:Int)) = false:=zR (by omega);have hd4:decide (t < L) = false:=zR ht;have HP0:=zA (show wr.heap[gP]? = some (.cells (nums .i64 (List.replicate L (-1))).toArray 3 (0,0)) by
   have e:t = L:=by have:=HTt.out;omega
   have hp:=HP.out;subst e;rw [Nat.sub_self,List.replicate_zero,List.append_nil] at hp
   exact hp)
  have HBW0:=zA HBW.out;rw [← HLL.out] at HL0;clear HP HBW ht HTt;go_wp2;clear hd hd4;go_loopg [8] k (fun kq v8_ w'=>∃ (x:Int) (part:List Int),v8_ = .int .i64 x∧Aside0 (partsOfL (turnS l0_2) l0_0 a0_1 l0_2 l0_3 a0_4 kq part x = some sr)∧Aside0 (kq ≤ k)∧Aside0 (part.length = L)∧Aside0 (w'.heap[gP]? = some (.cells (nums .i64 part).toArray 3 (0,0)))∧Aside0 (Below w6.heap.size w6 w'))
  case atStart=>exact ⟨0,_,rfl,HL0,⟨Nat.le_refl _⟩,⟨by simp⟩,HP0,HBW0⟩
  case round =>
   clear HL0 HP0 HBW0;obtain ⟨x,part,rfl,HA,HK,HPL,HP,HBW⟩:=hrel;cases gk with
   | zero=>exact absurd HA.out (by simp [partsOfL])
   | succ k1 =>
   have h:=HA.out;clear HA;simp only [partsOfL] at h;rw [HPL.out] at h;by_cases hx:x < (L:Int)
   case neg =>
    rw [if_neg hx] at h;obtain rfl:=Option.some.inj h;have hq:decide (x < (L:Int)) = false:=zR hx;have hR:=R_of_block (k:=.i64) (base:=w.heap.size) HP.out (Nat.le_trans HB6.out.size HGP.out) (by rw [HPL.out];have:=HL2.out;omega);rw [HPL.out] at hR;have HRR:=zA hR;have HBE:=zA (zH HB6.out HBW.out);clear h hx hR;go_wp2;go_ret2;exact ⟨_,rfl,HRR.out,HBE.out⟩
   rw [if_pos hx] at h;by_cases hx0:0 ≤ x
   case neg=>rw [if_neg hx0] at h;cases h
   rw [if_pos hx0] at h;have hq:decide (x < (L:Int)) = true:=zQ hx;have p1:(0 ≤ x) = True:=qT hx0;have p2:(x < (L:Int)) = True:=qT hx;have kP:=nums_cell HP.out x hx0 (by rw [HPL.out];exact hx);have e1:IntKind.i64.wrap (x + 1) = x + 1:=by rw [IntKind.wrap_i64];have:=HL2.out;omega
   by_cases hv:0 ≤ rd part x
   ·rw [if_pos hv] at h;have hq2:decide (rd part x ≥ 0) = true:=zQ hv;have HA:=zA h;clear h;go_wp2;go_roundg k1
    case measure=>omega
    case rel=>exact ⟨_,_,rfl,HA,⟨qo HK⟩,HPL,HP,HBW⟩
   rw [if_neg hv] at h;have hq2:decide (rd part x ≥ 0) = false:=zR hv;replace h:=zb.mp h;obtain ⟨a,ha,h⟩:=h;replace h:=zb.mp h;obtain ⟨b,hb,h⟩:=h;by_cases hab:a.length = L∧b.length = L
   case neg=>rw [if_neg hab] at h;cases h
   rw [if_pos hab] at h;have HA:=zA h;have HAA:=zA ha;have HAB:=zA hb;have HLAB:=zA hab;have HX0:=zA hx0;have HX1:=zA hx;clear h ha hb hab hv hx hx0;have hx6:=zN HX6.out HBW.out;have k0:wr.cell? ⟨gb,0,none⟩ = some (.slice A0_0 l0_0.length c0_0):=zI hx6 0;have k1_:wr.cell? ⟨gb,1,none⟩ = some (.int .i64 a0_1):=zI hx6 1;have k2:wr.cell? ⟨gb,2,none⟩ = some (.slice A0_2 l0_2.length c0_2):=zI hx6 2;have k3:wr.cell? ⟨gb,3,none⟩ = some (.slice A0_3 l0_3.length c0_3):=zI hx6 3;have k4:wr.cell? ⟨gb,4,none⟩ = some (.int .i64 a0_4):=zI hx6 4;have HBR:=zA (zH HB6.out HBW.out);clear hx6;go_upto_region 15 with (first|(go_at_call 32;(with_reducible refine (from1_calls k1 A0_0 c0_0 l0_0 a0_1 A0_2 c0_2 l0_2 A0_3 c0_3 l0_3 a0_4 x a _ (zT HR0_0.out HBR.out) HC0_0.out (zT HR0_2.out HBR.out) HC0_2.out (zT HR0_3.out HBR.out) HC0_3.out HAA.out).mono ?_);rintro e w7 ⟨Aa,ca,rfl,ho,hb⟩;have HOA:=zA ho;have HP7:=zA (zN HP.out hb);have HBW7:=zA (zH HBW.out hb);clear ho hb;clear k0 k1_ k2 k3 k4));have hx6:=zN HXT.out HBW7.out;have k0:w7.cell? ⟨gT,0,none⟩ = some (.slice A0_0 l0_0.length c0_0):=zI hx6 0;have k1_:w7.cell? ⟨gT,1,none⟩ = some (.int .i64 0):=zI hx6 1;have k2:w7.cell? ⟨gT,2,none⟩ = some (.slice (some ⟨gN,0,none⟩) (turnS l0_2).length (turnS l0_2).length):=zI hx6 2;have k3:w7.cell? ⟨gT,3,none⟩ = some (.slice none 0 0):=zI hx6 3;have k4:w7.cell? ⟨gT,4,none⟩ = some (.int .i64 0):=zI hx6 4;have HBR7:=zA (zH HB6.out HBW7.out);clear hx6;go_upto_region 16 with (first|(go_at_call 32;(with_reducible refine (from2_calls k1 A0_0 c0_0 l0_0 (some ⟨gN,0,none⟩) (turnS l0_2) x b _ (zT HR0_0.out HBR7.out) HC0_0.out (zT HC6.out HBW7.out) HAB.out).mono ?_);rintro e w8 ⟨Ab,cb,rfl,ho,hb⟩;have HOA8:=zA (Kd.R_below HOA.out hb);have HOB8:=zA ho;have HP8:=zA (zN HP7.out hb);have HBW8:=zA (zH HBW7.out hb);clear ho hb;clear k0 k1_ k2 k3 k4));have HE1:=zA e1;clear kP p1 p2 hq hq2 HP HBW HBR HP7 HBW7 HBR7 HOA e1 HAA HAB;have hal:=HLAB.out.1;have hbl:=HLAB.out.2;have hoa:=HOA8.out;have hob:=HOB8.out;rw [hal] at hoa;rw [hbl] at hob;have HOA:=zA hoa;have HOB:=zA hob;rw [hal,hbl];clear hal hbl hoa hob HOA8 HOB8;go_wp2;go_loopg [11] (L + 1) (fun kq v11_ w'=>∃ t:Nat,v11_ = .int .i64 (t:Int)∧Aside0 (kq + t = L + 1∧t ≤ L)∧Aside0 (w'.heap[gP]? = some (.cells (nums .i64 (markS x a b part t)).toArray 3 (0,0)))∧Aside0 (Kd.R Kd.bool 4 w' 0 (fun _=>True) (.slice Aa L ca) a)∧Aside0 (Kd.R Kd.bool 4 w' 0 (fun _=>True) (.slice Ab L cb) b)∧Aside0 (Below w6.heap.size w6 w'))
   case atStart=>exact ⟨0,rfl,⟨rfl,Nat.zero_le _⟩,HP8,HOA,HOB,HBW8⟩
   case round =>
    clear HP8 HOA HOB;obtain ⟨t,rfl,HTt,HP,HOA,HOB,HBW⟩:=hrel;have hml:=(Go.Proofs.Ytkcghbfmigdomaa.Pure.markS_rd x a b part t (by rw [HPL.out];exact HTt.out.2)).1;have HML:=zA hml;clear hml;by_cases ht:t < L
    case neg =>
     have hd:decide ((t:Int) < (L:Int)) = false:=zR (by omega);have hd4:decide (t < L) = false:=zR ht;have hte:t = L:=by have:=HTt.out;omega
     have hp:=HP.out;have hml:=HML.out;rw [hte] at hp hml;have HA':=HA.out;have HAN:=zA HA';have HPN:=zA hp;have HPLN:=zA (hml.trans HPL.out);have e1:=HE1.out;clear hp hml HA' ht hte;go_wp2;go_roundg k1
     case measure=>omega
     case rel=>exact ⟨_,_,rfl,HAN,⟨qo HK⟩,HPLN,HPN,HBW⟩
    have hd:decide ((t:Int) < (L:Int)) = true:=zQ (by omega);have hd2:((t:Int) < (L:Int)) = True:=qT (by omega);have hd4:decide (t < L) = true:=zQ ht;have hp:(0 ≤ (t:Int)) = True:=qT (by omega);have e1:IntKind.i64.wrap ((t:Int) + 1) = ((t + 1:Nat):Int):=by rw [IntKind.wrap_i64];have:=HL2.out;omega
    have hCA:=(Kd.R_reads' HOA.out).2.2;rw [HLAB.out.1] at hCA;have hCB:=(Kd.R_reads' HOB.out).2.2;rw [HLAB.out.2] at hCB;obtain ⟨ada,ea,ka⟩:=Kd.at_bool hCA (t:Int) (by omega) (by omega);obtain ⟨adb,eb,kb⟩:=Kd.at_bool hCB (t:Int) (by omega) (by omega);subst ea;subst eb;rw [Int.toNat_natCast] at ka kb;have hra:rdOf false a (t:Int) = a.getD t false:=by unfold rdOf;rw [Int.toNat_natCast]
    have hrb:rdOf false b (t:Int) = b.getD t false:=by unfold rdOf;rw [Int.toNat_natCast]
    rw [hra] at ka;rw [hrb] at kb;have HTn:=zA (show (L - t + (t + 1) = L + 1∧t + 1 ≤ L)∧L - t < gk by have:=HTt.out;omega);clear hra hrb hCA hCB ht;have kP:=nums_cell HP.out (t:Int) (by omega) (by rw [HML.out,HPL.out];have:=HTn.out;omega);rw [Int.toNat_natCast] at kP;have zP:wr.frozen? ⟨gP,t,none⟩ = false:=zJ HP.out _;have hms:markS x a b part (t + 1) = if a.getD t false = true∧b.getD t false = true then (markS x a b part t).set t x else markS x a b part t:=rfl;by_cases hat:a.getD t false = true
    ·rw [hat] at ka;by_cases hbt:b.getD t false = true
     ·rw [hbt] at kb;rw [if_pos ⟨hat,hbt⟩] at hms;have hpn:=blk_set HP.out t (.int .i64 x);rw [nums_put,← hms] at hpn;have HPN:=zA hpn;have HBN:=zA (HBW.out.setCell HGP.out (p:=⟨gP,t,none⟩) (.int .i64 x));have HOAN:=zA (Kd.R_set HOA.out HP.out (by decide) t (.int .i64 x));have HOBN:=zA (Kd.R_set HOB.out HP.out (by decide) t (.int .i64 x));clear hpn hms hat hbt;go_wp2;go_roundg (L - t)
      case measure=>exact HTn.out.2
      case rel=>exact ⟨t + 1,rfl,⟨HTn.out.1⟩,HPN,HOAN,HOBN,HBN⟩
     ·have hbt':b.getD t false = false:=Bool.eq_false_iff.2 hbt;rw [hbt'] at kb;rw [if_neg (fun h=>hbt h.2)] at hms;have hp:=HP.out;rw [← hms] at hp;have HPN:=zA hp;clear hp hms hat hbt hbt';go_wp2;go_roundg (L - t)
      case measure=>exact HTn.out.2
      case rel=>exact ⟨t + 1,rfl,⟨HTn.out.1⟩,HPN,HOA,HOB,HBW⟩
    ·have hat':a.getD t false = false:=Bool.eq_false_iff.2 hat;rw [hat'] at ka;rw [if_neg (fun h=>hat h.1)] at hms;have hp:=HP.out;rw [← hms] at hp;have HPN:=zA hp;clear hp hms hat hat';go_wp2;go_roundg (L - t)
     case measure=>exact HTn.out.2
     case rel=>exact ⟨t + 1,rfl,⟨HTn.out.1⟩,HPN,HOA,HOB,HBW⟩
end
end Go.Proofs.Ytkcghbfmigdomaa.Q
