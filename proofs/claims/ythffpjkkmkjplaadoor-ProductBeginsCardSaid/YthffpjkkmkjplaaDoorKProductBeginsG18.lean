import Derived.Test.YthffpjkkmkjplaaDoorKProductBeginsG9
import Derived.Test.YthffpjkkmkjplaaDoorKProductBeginsG12
import Derived.Test.YthffpjkkmkjplaaDoorKProductBeginsG17
import Derived.Test.YthffpjkkmkjplaaDoorKProductBeginsG13
import Derived.Test.YthffpjkkmkjplaaDoorKProductBeginsG15
-- Cut by a program of this session (wip/prune.py) from a longer text: declarations that the law does not need are left out.
namespace Go.Proofs.YthffpjkkmkjplaaDoor.S
open Go.Proofs.YthffpjkkmkjplaaDoor.Al
open Nat renaming lt_of_lt_of_le → zS
open Go.Proofs.YthffpjkkmkjplaaDoorW.PrintWords renaming below_alloc → zD, below_step → zH, blk_cell → zI, blk_frozen → zJ, Kd.C_below → zT, gate_dst → zV
open Go.Proofs.YthffpjkkmkjplaaDoor.Sq
open Go.RowKit Go.Proofs.YthffpjkkmkjplaaDoorW.PrintWords Go.Proofs.YthffpjkkmkjplaaDoorW.PrintLast Go.Proofs.YthffpjkkmkjplaaDoorW.PrintMore
attribute [local go_sem] max2_int min2_int max_two min_two max_three min_three max_four min_four
set_option linter.unusedVariables false
set_option linter.unusedSimpArgs false
section
open Go.Proofs.YthffpjkkmkjplaaDoor.Hand
open Go.Proofs.YthffpjkkmkjplaaDoor.Pure (doVal pushS)
set_option maxRecDepth 100000
structure MachOK (w:World) (gm:Nat) (v:Value) (stk:List Int) (A:Option Addr) (c:Nat) (env:List Int):Prop where
 cells:w.heap[gm]? = some (.cells #[v,.slice A env.length c] 115 (0,0))
 own:Kd.R (Kd.int .i64) 3 w (gm + 1) (fun _=>True) v stk
 env:∀ W,Below gm w W → Kd.C (Kd.int .i64) W A env.length env
 len:stk.length ≤ 60
theorem pop_calls (gm:Nat) (v:Value) (s:List Int) (x:Int) (A:Option Addr) (c:Nat) (env:List Int) (w:World) (hM:MachOK w gm v (s ++ [x]) A c env) :
  Calls Tryd.prog 84 #[.pointer (some ⟨gm,0,none⟩)] w fun e w'=>e = .returned (.int .i64 x)∧∃ v',MachOK w' gm v' s A c env∧Below gm w w'∧w.grownBy w' (some gm):=by
 obtain ⟨hc,ho,he,hl⟩:=hM
 have hlen:(s ++ [x]).length = s.length + 1:=by simp
 rw [hlen] at hl
 obtain ⟨A1,c1,hv⟩:=Kd.R_slice ho
 rw [hlen] at hv
 subst hv
 obtain ⟨hn,hcap,hC⟩:=Kd.R_reads' ho
 obtain ⟨ad,ead,k1⟩:=Kd.at_int hC (s.length:Int) (by omega) (by omega)
 subst ead
 have hrd:rd (s ++ [x]) (s.length:Int) = x:=by simp [rd]
 rw [hrd,Int.toNat_natCast] at k1
 have k0:w.cell? ⟨gm,0,none⟩ = some (.slice (some ad) (s.length + 1) c1):=zI hc 0
 have z0:w.frozen? ⟨gm,0,none⟩ = false:=zJ hc 0
 have e1:IntKind.i64.wrap (((s.length + 1:Nat):Int) - 1) = (s.length:Int):=by rw [IntKind.wrap_i64];omega
 have e2:IntKind.i64.wrap (s.length:Int) = (s.length:Int):=by rw [IntKind.wrap_i64];omega
 have hq1:decide ((s.length:Int) < ((s.length + 1:Nat):Int)) = true:=zQ (by omega)
 have hp1:(0 ≤ (s.length:Int)) = True:=eq_true (by omega)
 obtain ⟨i0,hi0,hz0,hz1,hz2⟩:=info_parts info3
 have hcut:=cut_to (P:=Tryd.prog) 37 3 .i64 Tryd.underlying37 hi0 (some ad) (s.length + 1) c1 (s.length:Int) (by omega) (by omega) hcap
 rw [Int.toNat_natCast] at hcut
 clear hi0 hz0 hz1 hz2
 have HC:=zA hc
 have HO:=zA ho
 have HE:=zA he
 have HL:=zA hl
 clear hc ho he hC hl hn
 go_enter Tryd.func84,Tryd.ntmps84
 go_wp2
 go_region
 go_wp2
 go_region
 go_wp2
 go_ret
 have hb:Below gm w (w.setCell ⟨gm,0,none⟩ (.slice (some ad) s.length c1)).drew.drew:=((Below.refl gm w).setCell (Nat.le_refl _) _).drew.drew
 refine ⟨rfl,.slice (some ad) s.length c1,⟨?_,?_,fun W hW=>HE.out W (hb.trans hW),qo HL⟩,hb,grownBy_drewN (grownBy_drewN (grownBy_set (World.grownBy.refl w _) 0 _) 1) 1⟩
 ·show (w.setCell ⟨gm,0,none⟩ (.slice (some ad) s.length c1)).heap[gm]? = _
  rw [blk_set HC.out]
  rfl
 ·have h:=Kd.R_take HO.out (show s.length ≤ (s ++ [x]).length by simp)
  rw [List.take_left' rfl] at h
  exact Kd.R_drew (Kd.R_drew (R_setb h (show gm < gm + 1 by omega) _))
section
variable (ga gb:Nat) (a b:Int) (w:World) (ha:w.heap[ga]? = some (.cells #[.int .i64 a] 3 (0,0))) (hb:w.heap[gb]? = some (.cells #[.int .i64 b] 3 (0,0)))
include ha hb
theorem do_add (h0:-1000000 ≤ a∧a ≤ 1000000) (h1:-1000000 ≤ b∧b ≤ 1000000):Calls Tryd.prog 96 #[.pointer (some ⟨ga,0,none⟩),.pointer (some ⟨gb,0,none⟩)] w fun e w'=>e = .returned (.int .i64 (a + b))∧w' = w:=by
 have k1:w.cell? ⟨ga,0,none⟩ = some (.int .i64 a):=zI ha 0
 have k2:w.cell? ⟨gb,0,none⟩ = some (.int .i64 b):=zI hb 0
 have e1:IntKind.i64.wrap (a + b) = a + b:=by rw [IntKind.wrap_i64];omega
 go_enter Tryd.func96,Tryd.ntmps96
 go_wp2
 go_ret
 exact ⟨rfl,rfl⟩
theorem do_sub (h0:-1000000 ≤ a∧a ≤ 1000000) (h1:-1000000 ≤ b∧b ≤ 1000000):Calls Tryd.prog 97 #[.pointer (some ⟨ga,0,none⟩),.pointer (some ⟨gb,0,none⟩)] w fun e w'=>e = .returned (.int .i64 (a - b))∧w' = w:=by
 have k1:w.cell? ⟨ga,0,none⟩ = some (.int .i64 a):=zI ha 0
 have k2:w.cell? ⟨gb,0,none⟩ = some (.int .i64 b):=zI hb 0
 have e1:IntKind.i64.wrap (a - b) = a - b:=by rw [IntKind.wrap_i64];omega
 go_enter Tryd.func97,Tryd.ntmps97
 go_wp2
 go_ret
 exact ⟨rfl,rfl⟩
theorem do_mul (h0:-1000000 ≤ a∧a ≤ 1000000) (h1:-1000000 ≤ b∧b ≤ 1000000):Calls Tryd.prog 98 #[.pointer (some ⟨ga,0,none⟩),.pointer (some ⟨gb,0,none⟩)] w fun e w'=>e = .returned (.int .i64 (a * b))∧w' = w:=by
 have k1:w.cell? ⟨ga,0,none⟩ = some (.int .i64 a):=zI ha 0
 have k2:w.cell? ⟨gb,0,none⟩ = some (.int .i64 b):=zI hb 0
 have hm:(a * b).natAbs ≤ 1000000 * 1000000:=by rw [Int.natAbs_mul];exact Nat.mul_le_mul (by omega) (by omega)
 have e1:IntKind.i64.wrap (a * b) = a * b:=by rw [IntKind.wrap_i64];omega
 clear hm
 go_enter Tryd.func98,Tryd.ntmps98
 go_wp2
 go_ret
 exact ⟨rfl,rfl⟩
theorem do_eq:Calls Tryd.prog 99 #[.pointer (some ⟨ga,0,none⟩),.pointer (some ⟨gb,0,none⟩)] w fun e w'=>e = .returned (.int .i64 (if a = b then 1 else 0))∧w' = w:=by
 have k1:w.cell? ⟨ga,0,none⟩ = some (.int .i64 a):=zI ha 0
 have k2:w.cell? ⟨gb,0,none⟩ = some (.int .i64 b):=zI hb 0
 by_cases h:a = b
 ·have hq:(a == b) = true:=beq_iff_eq.2 h
  rw [if_pos h]
  clear h
  go_enter Tryd.func99,Tryd.ntmps99
  go_wp2
  go_ret
  exact ⟨rfl,rfl⟩
 ·have hq:(a == b) = false:=beq_eq_false_iff_ne.2 h
  rw [if_neg h]
  go_enter Tryd.func99,Tryd.ntmps99
  go_wp2
  go_ret
  exact ⟨rfl,rfl⟩
theorem do_lt:Calls Tryd.prog 101 #[.pointer (some ⟨ga,0,none⟩),.pointer (some ⟨gb,0,none⟩)] w fun e w'=>e = .returned (.int .i64 (if a < b then 1 else 0))∧w' = w:=by
 have k1:w.cell? ⟨ga,0,none⟩ = some (.int .i64 a):=zI ha 0
 have k2:w.cell? ⟨gb,0,none⟩ = some (.int .i64 b):=zI hb 0
 by_cases h:a < b
 ·have hq:decide (a < b) = true:=zQ h
  rw [if_pos h]
  go_enter Tryd.func101,Tryd.ntmps101
  go_wp2
  go_ret
  exact ⟨rfl,rfl⟩
 ·have hq:decide (a < b) = false:=zR h
  rw [if_neg h]
  go_enter Tryd.func101,Tryd.ntmps101
  go_wp2
  go_ret
  exact ⟨rfl,rfl⟩
theorem do_and:Calls Tryd.prog 102 #[.pointer (some ⟨ga,0,none⟩),.pointer (some ⟨gb,0,none⟩)] w fun e w'=>e = .returned (.int .i64 (Go.bits .and .i64 a b))∧w' = w:=by
 have k1:w.cell? ⟨ga,0,none⟩ = some (.int .i64 a):=zI ha 0
 have k2:w.cell? ⟨gb,0,none⟩ = some (.int .i64 b):=zI hb 0
 go_enter Tryd.func102,Tryd.ntmps102
 go_wp2
 go_ret
 exact ⟨rfl,rfl⟩
theorem do_or:Calls Tryd.prog 103 #[.pointer (some ⟨ga,0,none⟩),.pointer (some ⟨gb,0,none⟩)] w fun e w'=>e = .returned (.int .i64 (Go.bits .or .i64 a b))∧w' = w:=by
 have k1:w.cell? ⟨ga,0,none⟩ = some (.int .i64 a):=zI ha 0
 have k2:w.cell? ⟨gb,0,none⟩ = some (.int .i64 b):=zI hb 0
 go_enter Tryd.func103,Tryd.ntmps103
 go_wp2
 go_ret
 exact ⟨rfl,rfl⟩
end
def cloN (kd:Int):Nat:=if kd = 3 then 96 else if kd = 4 then 97 else if kd = 5 then 98 else if kd = 6 then 99 else if kd = 7 then 101 else if kd = 8 then 102 else 103
theorem clo_calls (kd:Int) (hk:3 ≤ kd∧kd ≤ 9) (ga gb:Nat) (a b:Int) (w:World) (ha:w.heap[ga]? = some (.cells #[.int .i64 a] 3 (0,0))) (hb:w.heap[gb]? = some (.cells #[.int .i64 b] 3 (0,0)))
  (h0:-1000000 ≤ a∧a ≤ 1000000) (h1:-1000000 ≤ b∧b ≤ 1000000):Calls Tryd.prog (cloN kd) #[.pointer (some ⟨ga,0,none⟩),.pointer (some ⟨gb,0,none⟩)] w fun e w'=>e = .returned (.int .i64 (doVal kd a b))∧w' = w:=by
 have:kd = 3 ∨ kd = 4 ∨ kd = 5 ∨ kd = 6 ∨ kd = 7 ∨ kd = 8 ∨ kd = 9:=by omega
 rcases this with e|e|e|e|e|e|e <;> subst e
 ·exact do_add ga gb a b w ha hb h0 h1
 ·exact do_sub ga gb a b w ha hb h0 h1
 ·exact do_mul ga gb a b w ha hb h0 h1
 ·exact do_eq ga gb a b w ha hb
 ·exact do_lt ga gb a b w ha hb
 ·exact do_and ga gb a b w ha hb
 ·exact do_or ga gb a b w ha hb
def DoPost (n:Int) (s:List Int) (gm:Nat) (A:Option Addr) (c:Nat) (env:List Int) (w:World) (e:Ending) (w':World):Prop :=
 Below gm w w'∧match pushS n s with
  | .error cc=>e = .panicked [{ v:=.iface 28 (.int .i64 cc),recovered:=false }]
  | .ok s'=>e = .returned (.tuple #[])∧∃ v',MachOK w' gm v' s' A c env
theorem MachOK.mono {w w':World} {gm:Nat} {v:Value} {stk:List Int} {A:Option Addr} {c:Nat} {env:List Int} (h:MachOK w gm v stk A c env) (hb:Below w.heap.size w w'):MachOK w' gm v stk A c env :=
 ⟨(hb.block gm (blk_lt h.cells)).trans h.cells,Kd.R_below h.own hb,fun W hW=>h.env W (((hb.mono (Nat.le_of_lt (blk_lt h.cells)))).trans hW),h.len⟩
theorem MachOK.pushed {w w1:World} {gm:Nat} {v v1:Value} {stk:List Int} {n:Int} {A:Option Addr} {c:Nat} {env:List Int} (h:MachOK w gm v stk A c env) (hl:stk.length < 60) (ho:Kd.R (Kd.int .i64) 3 w1 (gm + 1) (fun _=>True) v1 (stk ++ [n])) (hb:Below (gm + 1) w w1) :
  MachOK (w1.setCell ⟨gm,0,none⟩ v1) gm v1 (stk ++ [n]) A c env:=by
 have hg:w1.heap[gm]? = some (.cells #[v,.slice A env.length c] 115 (0,0)):=(hb.block gm (by omega)).trans h.cells
 refine ⟨?_,R_setb ho (show gm < gm + 1 by omega) _,fun W hW=>h.env W (((hb.mono (Nat.le_succ gm)).setCell (p:=⟨gm,0,none⟩) (Nat.le_refl _) _).trans hW),by simp;omega⟩
 rw [blk_set hg]
 rfl
set_option maxHeartbeats 2000000 in
theorem do_num (gm:Nat) (v:Value) (s:List Int) (A:Option Addr) (c:Nat) (env:List Int) (o:S65) (hk:o.f0 = 1) (w0:World) (hl:s.length < 60) (hM0:MachOK w0 gm v (s) A c env) :
  Calls Tryd.prog 83 #[.pointer (some ⟨gm,0,none⟩),.agg #[.int .i64 o.f0,.int .i64 o.f1]] w0 (DoPost (o.f1) s gm A c env w0):=by
 have kb1:(o.f0 == 1) = true:=beq_iff_eq.2 hk
 obtain ⟨A1,c1,ev⟩:=Kd.R_slice hM0.own
 subst ev
 have HM0:=zA hM0
 have HL:=zA hl
 clear hM0 hl hk
 by_cases h1:o.f1 < -1000000
 ·have q1:decide (o.f1 < -1000000) = true:=zQ h1
  have HP:=zA (show pushS (o.f1) s = .error 8 by unfold pushS;rw [if_pos (.inl h1)])
  go_enter Tryd.func83,Tryd.ntmps83
  go_wp2_with (first|((with_reducible refine zV (N:=3) rfl ?_);refine bq 3 (cs:=#[.int .i64 o.f0,.int .i64 o.f1]) (t:=65) ?_;intro gb hg w hbox hb;have HM:=zA (HM0.out.mono hb);have HBW:=zA (hb.mono (Nat.le_of_lt (blk_lt HM0.out.cells)));have HZ:=zA (show gm + 1 ≤ w.heap.size from blk_lt HM.out.cells);have k0:w.cell? ⟨gb,0,none⟩ = some (.int .i64 o.f0):=zI hbox 0;have k1:w.cell? ⟨gb,1,none⟩ = some (.int .i64 o.f1):=zI hbox 1;have c0:w.cell? ⟨gm,0,none⟩ = some (.slice A1 (s).length c1):=zI HM.out.cells 0;clear hb hbox hg))
  exact ⟨rfl,by unfold DoPost;exact ⟨HBW.out,by rw [HP.out]⟩⟩
 have q1:decide (o.f1 < -1000000) = false:=zR h1
 by_cases h2:o.f1 > 1000000
 ·have q2:decide (o.f1 > 1000000) = true:=zQ h2
  have HP:=zA (show pushS (o.f1) s = .error 8 by unfold pushS;rw [if_pos (.inr h2)])
  go_enter Tryd.func83,Tryd.ntmps83
  go_wp2_with (first|((with_reducible refine zV (N:=3) rfl ?_);refine bq 3 (cs:=#[.int .i64 o.f0,.int .i64 o.f1]) (t:=65) ?_;intro gb hg w hbox hb;have HM:=zA (HM0.out.mono hb);have HBW:=zA (hb.mono (Nat.le_of_lt (blk_lt HM0.out.cells)));have HZ:=zA (show gm + 1 ≤ w.heap.size from blk_lt HM.out.cells);have k0:w.cell? ⟨gb,0,none⟩ = some (.int .i64 o.f0):=zI hbox 0;have k1:w.cell? ⟨gb,1,none⟩ = some (.int .i64 o.f1):=zI hbox 1;have c0:w.cell? ⟨gm,0,none⟩ = some (.slice A1 (s).length c1):=zI HM.out.cells 0;clear hb hbox hg))
  exact ⟨rfl,by unfold DoPost;exact ⟨HBW.out,by rw [HP.out]⟩⟩
 have q2:decide (o.f1 > 1000000) = false:=zR h2
 have HP:=zA (show pushS (o.f1) s = .ok (s ++ [o.f1]) by unfold pushS;rw [if_neg (by omega)])
 go_enter Tryd.func83,Tryd.ntmps83
 go_wp2_with (first|((with_reducible refine zV (N:=3) rfl ?_);refine bq 3 (cs:=#[.int .i64 o.f0,.int .i64 o.f1]) (t:=65) ?_;intro gb hg w hbox hb;have HM:=zA (HM0.out.mono hb);have HBW:=zA (hb.mono (Nat.le_of_lt (blk_lt HM0.out.cells)));have HZ:=zA (show gm + 1 ≤ w.heap.size from blk_lt HM.out.cells);have k0:w.cell? ⟨gb,0,none⟩ = some (.int .i64 o.f0):=zI hbox 0;have k1:w.cell? ⟨gb,1,none⟩ = some (.int .i64 o.f1):=zI hbox 1;have c0:w.cell? ⟨gm,0,none⟩ = some (.slice A1 (s).length c1):=zI HM.out.cells 0;clear hb hbox hg)|(at_builtin;refine Kd.R_append (Kd.int .i64) (gm + 1) rfl (.tmp 60) (.tmp 62) 37 3 (.int .i64 0) 8 rfl Tryd.underlying37 info3 rfl (by decide) (by decide) (.slice A1 (s).length c1) (s) (o.f1) [.int .i64 (o.f1)] (fun _=>True) (fun _=>False) rfl rfl ?aP (fun _ h=>h.elim) (fun _ _=>trivial) HM.out.own (Below.refl _ _) HZ.out (qo HL) ?_;(case aP=>rfl);intro v1 w1 ho hb hg hat;obtain ⟨A2,c2,e2⟩:=Kd.R_slice ho;subst e2;have HO1:=zA ho;have HB1:=zA hb;have kc:w1.cell? ⟨gm,0,none⟩ = some (.slice A1 (s).length c1):=zI ((hb.block gm (Nat.lt_succ_self gm)).trans HM.out.cells) 0;have kz:w1.frozen? ⟨gm,0,none⟩ = false:=zJ ((hb.block gm (Nat.lt_succ_self gm)).trans HM.out.cells) 0;clear ho hb hg hat))
 go_end0
 have ho:=HO1.out
 rw [show ((s) ++ [o.f1]).length = (s).length + 1 by simp] at ho
 have hb:=HBW.out.trans ((HB1.out.mono (Nat.le_succ gm)).setCell (p:=⟨gm,0,none⟩) (Nat.le_refl _) (.slice A2 ((s).length + 1) c2))
 unfold DoPost
 exact ⟨hb,by rw [HP.out];exact ⟨rfl,_,HM.out.pushed HL.out ho HB1.out⟩⟩
set_option maxHeartbeats 2000000 in
theorem do_not (gm:Nat) (v:Value) (s:List Int) (x:Int) (A:Option Addr) (c:Nat) (env:List Int) (o:S65) (hk:o.f0 = 10) (hx:-1000000 ≤ x∧x ≤ 1000000) (w0:World) (hl:s.length < 60) (hM0:MachOK w0 gm v (s ++ [x]) A c env) :
  Calls Tryd.prog 83 #[.pointer (some ⟨gm,0,none⟩),.agg #[.int .i64 o.f0,.int .i64 o.f1]] w0 (DoPost (1 - x) s gm A c env w0):=by
 have kb1:(o.f0 == 1) = false:=by rw [beq_eq_false_iff_ne];omega
 have kb2:(o.f0 == 2) = false:=by rw [beq_eq_false_iff_ne];omega
 have kb11:(o.f0 == 11) = false:=by rw [beq_eq_false_iff_ne];omega
 have kb12:(o.f0 == 12) = false:=by rw [beq_eq_false_iff_ne];omega
 have kb10:(o.f0 == 10) = true:=beq_iff_eq.2 hk
 obtain ⟨A1,c1,ev⟩:=Kd.R_slice hM0.own
 subst ev
 have HM0:=zA hM0
 have HL:=zA hl
 have e1:IntKind.i64.wrap (1 - x) = 1 - x:=by rw [IntKind.wrap_i64];omega
 clear hM0 hl hk
 have h1:¬ (1 - x < -1000000):=by omega
 have q1:decide (1 - x < -1000000) = false:=zR h1
 by_cases h2:1 - x > 1000000
 ·have q2:decide (1 - x > 1000000) = true:=zQ h2
  have HP:=zA (show pushS (1 - x) s = .error 8 by unfold pushS;rw [if_pos (.inr h2)])
  go_enter Tryd.func83,Tryd.ntmps83
  go_wp2_with (first|((with_reducible refine zV (N:=3) rfl ?_);refine bq 3 (cs:=#[.int .i64 o.f0,.int .i64 o.f1]) (t:=65) ?_;intro gb hg w hbox hb;have HM:=zA (HM0.out.mono hb);have HBP1:=zA (hb.mono (Nat.le_of_lt (blk_lt HM0.out.cells)));have HZ:=zA (show gm + 1 ≤ w.heap.size from blk_lt HM.out.cells);have k0:w.cell? ⟨gb,0,none⟩ = some (.int .i64 o.f0):=zI hbox 0;have k1:w.cell? ⟨gb,1,none⟩ = some (.int .i64 o.f1):=zI hbox 1;have c0:w.cell? ⟨gm,0,none⟩ = some (.slice A1 (s ++ [x]).length c1):=zI HM.out.cells 0;clear hb hbox hg)|(go_at_call 84;(with_reducible refine (pop_calls gm _ (s) x A c env _ HM.out).mono ?_);rintro e wp1 ⟨rfl,vp1,hmp,hbp,hgp⟩;obtain ⟨Ap1,cp1,evp⟩:=Kd.R_slice hmp.own;subst evp;have HMP1:=zA hmp;have HBP1:=zA (HBP1.out.trans hbp);have HZP1:=zA (show gm + 1 ≤ wp1.heap.size from blk_lt hmp.cells);have c0p1:wp1.cell? ⟨gm,0,none⟩ = some (.slice Ap1 (s).length cp1):=zI hmp.cells 0;clear hmp hbp hgp))
  exact ⟨rfl,by unfold DoPost;exact ⟨HBP1.out,by rw [HP.out]⟩⟩
 have q2:decide (1 - x > 1000000) = false:=zR h2
 have HP:=zA (show pushS (1 - x) s = .ok (s ++ [1 - x]) by unfold pushS;rw [if_neg (by omega)])
 go_enter Tryd.func83,Tryd.ntmps83
 go_wp2_with (first|((with_reducible refine zV (N:=3) rfl ?_);refine bq 3 (cs:=#[.int .i64 o.f0,.int .i64 o.f1]) (t:=65) ?_;intro gb hg w hbox hb;have HM:=zA (HM0.out.mono hb);have HBW:=zA (hb.mono (Nat.le_of_lt (blk_lt HM0.out.cells)));have HZ:=zA (show gm + 1 ≤ w.heap.size from blk_lt HM.out.cells);have k0:w.cell? ⟨gb,0,none⟩ = some (.int .i64 o.f0):=zI hbox 0;have k1:w.cell? ⟨gb,1,none⟩ = some (.int .i64 o.f1):=zI hbox 1;have c0:w.cell? ⟨gm,0,none⟩ = some (.slice A1 (s ++ [x]).length c1):=zI HM.out.cells 0;clear hb hbox hg)|(go_at_call 84;(with_reducible refine (pop_calls gm _ (s) x A c env _ HM.out).mono ?_);rintro e wp1 ⟨rfl,vp1,hmp,hbp,hgp⟩;obtain ⟨Ap1,cp1,evp⟩:=Kd.R_slice hmp.own;subst evp;have HMP1:=zA hmp;have HBP1:=zA (HBW.out.trans hbp);have HZP1:=zA (show gm + 1 ≤ wp1.heap.size from blk_lt hmp.cells);have c0p1:wp1.cell? ⟨gm,0,none⟩ = some (.slice Ap1 (s).length cp1):=zI hmp.cells 0;clear hmp hbp hgp)|(at_builtin;refine Kd.R_append (Kd.int .i64) (gm + 1) rfl (.tmp 60) (.tmp 62) 37 3 (.int .i64 0) 8 rfl Tryd.underlying37 info3 rfl (by decide) (by decide) (.slice Ap1 (s).length cp1) (s) (1 - x) [.int .i64 (1 - x)] (fun _=>True) (fun _=>False) rfl rfl ?aP (fun _ h=>h.elim) (fun _ _=>trivial) HMP1.out.own (Below.refl _ _) HZP1.out (qo HL) ?_;(case aP=>rfl);intro v1 w1 ho hb hg hat;obtain ⟨A2,c2,e2⟩:=Kd.R_slice ho;subst e2;have HO1:=zA ho;have HB1:=zA hb;have kc:w1.cell? ⟨gm,0,none⟩ = some (.slice Ap1 (s).length cp1):=zI ((hb.block gm (Nat.lt_succ_self gm)).trans HMP1.out.cells) 0;have kz:w1.frozen? ⟨gm,0,none⟩ = false:=zJ ((hb.block gm (Nat.lt_succ_self gm)).trans HMP1.out.cells) 0;clear ho hb hg hat))
 go_end0
 have ho:=HO1.out
 rw [show ((s) ++ [1 - x]).length = (s).length + 1 by simp] at ho
 have hb:=HBP1.out.trans ((HB1.out.mono (Nat.le_succ gm)).setCell (p:=⟨gm,0,none⟩) (Nat.le_refl _) (.slice A2 ((s).length + 1) c2))
 unfold DoPost
 exact ⟨hb,by rw [HP.out];exact ⟨rfl,_,HMP1.out.pushed HL.out ho HB1.out⟩⟩
set_option maxHeartbeats 2000000 in
theorem do_yes (gm:Nat) (v:Value) (s:List Int) (A:Option Addr) (c:Nat) (env:List Int) (o:S65) (hk:o.f0 = 11) (w0:World) (hl:s.length < 60) (hM0:MachOK w0 gm v (s) A c env) :
  Calls Tryd.prog 83 #[.pointer (some ⟨gm,0,none⟩),.agg #[.int .i64 o.f0,.int .i64 o.f1]] w0 (DoPost ((1:Int)) s gm A c env w0):=by
 have kb1:(o.f0 == 1) = false:=by rw [beq_eq_false_iff_ne];omega
 have kb2:(o.f0 == 2) = false:=by rw [beq_eq_false_iff_ne];omega
 have kb11:(o.f0 == 11) = true:=beq_iff_eq.2 hk
 obtain ⟨A1,c1,ev⟩:=Kd.R_slice hM0.own
 subst ev
 have HM0:=zA hM0
 have HL:=zA hl
 clear hM0 hl hk
 have h1:¬ ((1:Int) < -1000000):=by omega
 have q1:decide ((1:Int) < -1000000) = false:=zR h1
 have h2:¬ ((1:Int) > 1000000):=by omega
 have q2:decide ((1:Int) > 1000000) = false:=zR h2
 have HP:=zA (show pushS ((1:Int)) s = .ok (s ++ [(1:Int)]) by unfold pushS;rw [if_neg (by omega)])
 go_enter Tryd.func83,Tryd.ntmps83
 go_wp2_with (first|((with_reducible refine zV (N:=3) rfl ?_);refine bq 3 (cs:=#[.int .i64 o.f0,.int .i64 o.f1]) (t:=65) ?_;intro gb hg w hbox hb;have HM:=zA (HM0.out.mono hb);have HBW:=zA (hb.mono (Nat.le_of_lt (blk_lt HM0.out.cells)));have HZ:=zA (show gm + 1 ≤ w.heap.size from blk_lt HM.out.cells);have k0:w.cell? ⟨gb,0,none⟩ = some (.int .i64 o.f0):=zI hbox 0;have k1:w.cell? ⟨gb,1,none⟩ = some (.int .i64 o.f1):=zI hbox 1;have c0:w.cell? ⟨gm,0,none⟩ = some (.slice A1 (s).length c1):=zI HM.out.cells 0;clear hb hbox hg)|(at_builtin;refine Kd.R_append (Kd.int .i64) (gm + 1) rfl (.tmp 60) (.tmp 62) 37 3 (.int .i64 0) 8 rfl Tryd.underlying37 info3 rfl (by decide) (by decide) (.slice A1 (s).length c1) (s) ((1:Int)) [.int .i64 ((1:Int))] (fun _=>True) (fun _=>False) rfl rfl ?aP (fun _ h=>h.elim) (fun _ _=>trivial) HM.out.own (Below.refl _ _) HZ.out (qo HL) ?_;(case aP=>rfl);intro v1 w1 ho hb hg hat;obtain ⟨A2,c2,e2⟩:=Kd.R_slice ho;subst e2;have HO1:=zA ho;have HB1:=zA hb;have kc:w1.cell? ⟨gm,0,none⟩ = some (.slice A1 (s).length c1):=zI ((hb.block gm (Nat.lt_succ_self gm)).trans HM.out.cells) 0;have kz:w1.frozen? ⟨gm,0,none⟩ = false:=zJ ((hb.block gm (Nat.lt_succ_self gm)).trans HM.out.cells) 0;clear ho hb hg hat))
 go_end0
 have ho:=HO1.out
 rw [show ((s) ++ [(1:Int)]).length = (s).length + 1 by simp] at ho
 have hb:=HBW.out.trans ((HB1.out.mono (Nat.le_succ gm)).setCell (p:=⟨gm,0,none⟩) (Nat.le_refl _) (.slice A2 ((s).length + 1) c2))
 unfold DoPost
 exact ⟨hb,by rw [HP.out];exact ⟨rfl,_,HM.out.pushed HL.out ho HB1.out⟩⟩
set_option maxHeartbeats 2000000 in
theorem do_no (gm:Nat) (v:Value) (s:List Int) (A:Option Addr) (c:Nat) (env:List Int) (o:S65) (hk:o.f0 = 12) (w0:World) (hl:s.length < 60) (hM0:MachOK w0 gm v (s) A c env) :
  Calls Tryd.prog 83 #[.pointer (some ⟨gm,0,none⟩),.agg #[.int .i64 o.f0,.int .i64 o.f1]] w0 (DoPost ((0:Int)) s gm A c env w0):=by
 have kb1:(o.f0 == 1) = false:=by rw [beq_eq_false_iff_ne];omega
 have kb2:(o.f0 == 2) = false:=by rw [beq_eq_false_iff_ne];omega
 have kb11:(o.f0 == 11) = false:=by rw [beq_eq_false_iff_ne];omega
 have kb12:(o.f0 == 12) = true:=beq_iff_eq.2 hk
 obtain ⟨A1,c1,ev⟩:=Kd.R_slice hM0.own
 subst ev
 have HM0:=zA hM0
 have HL:=zA hl
 clear hM0 hl hk
 have h1:¬ ((0:Int) < -1000000):=by omega
 have q1:decide ((0:Int) < -1000000) = false:=zR h1
 have h2:¬ ((0:Int) > 1000000):=by omega
 have q2:decide ((0:Int) > 1000000) = false:=zR h2
 have HP:=zA (show pushS ((0:Int)) s = .ok (s ++ [(0:Int)]) by unfold pushS;rw [if_neg (by omega)])
 go_enter Tryd.func83,Tryd.ntmps83
 go_wp2_with (first|((with_reducible refine zV (N:=3) rfl ?_);refine bq 3 (cs:=#[.int .i64 o.f0,.int .i64 o.f1]) (t:=65) ?_;intro gb hg w hbox hb;have HM:=zA (HM0.out.mono hb);have HBW:=zA (hb.mono (Nat.le_of_lt (blk_lt HM0.out.cells)));have HZ:=zA (show gm + 1 ≤ w.heap.size from blk_lt HM.out.cells);have k0:w.cell? ⟨gb,0,none⟩ = some (.int .i64 o.f0):=zI hbox 0;have k1:w.cell? ⟨gb,1,none⟩ = some (.int .i64 o.f1):=zI hbox 1;have c0:w.cell? ⟨gm,0,none⟩ = some (.slice A1 (s).length c1):=zI HM.out.cells 0;clear hb hbox hg)|(at_builtin;refine Kd.R_append (Kd.int .i64) (gm + 1) rfl (.tmp 60) (.tmp 62) 37 3 (.int .i64 0) 8 rfl Tryd.underlying37 info3 rfl (by decide) (by decide) (.slice A1 (s).length c1) (s) ((0:Int)) [.int .i64 ((0:Int))] (fun _=>True) (fun _=>False) rfl rfl ?aP (fun _ h=>h.elim) (fun _ _=>trivial) HM.out.own (Below.refl _ _) HZ.out (qo HL) ?_;(case aP=>rfl);intro v1 w1 ho hb hg hat;obtain ⟨A2,c2,e2⟩:=Kd.R_slice ho;subst e2;have HO1:=zA ho;have HB1:=zA hb;have kc:w1.cell? ⟨gm,0,none⟩ = some (.slice A1 (s).length c1):=zI ((hb.block gm (Nat.lt_succ_self gm)).trans HM.out.cells) 0;have kz:w1.frozen? ⟨gm,0,none⟩ = false:=zJ ((hb.block gm (Nat.lt_succ_self gm)).trans HM.out.cells) 0;clear ho hb hg hat))
 go_end0
 have ho:=HO1.out
 rw [show ((s) ++ [(0:Int)]).length = (s).length + 1 by simp] at ho
 have hb:=HBW.out.trans ((HB1.out.mono (Nat.le_succ gm)).setCell (p:=⟨gm,0,none⟩) (Nat.le_refl _) (.slice A2 ((s).length + 1) c2))
 unfold DoPost
 exact ⟨hb,by rw [HP.out];exact ⟨rfl,_,HM.out.pushed HL.out ho HB1.out⟩⟩
theorem MachOK.drew {w:World} {gm:Nat} {v:Value} {stk:List Int} {A:Option Addr} {c:Nat} {env:List Int} (h:MachOK w gm v stk A c env):MachOK w.drew gm v stk A c env :=
 ⟨h.cells,Kd.R_drew h.own,fun W hW=>h.env W ((Below.refl gm w).drew.trans hW),h.len⟩
set_option maxHeartbeats 2000000 in
theorem do_var (gm:Nat) (v:Value) (s:List Int) (A:Option Addr) (c:Nat) (env:List Int) (o:S65) (hk:o.f0 = 2) (n:Int) (hj0:0 ≤ o.f1) (hj1:o.f1 < (env.length:Int)) (hm:env.length ≤ 9223372036854775807) (hn:rd env o.f1 = n) (w0:World) (hl:s.length < 60) (hM0:MachOK w0 gm v s A c env) :
  Calls Tryd.prog 83 #[.pointer (some ⟨gm,0,none⟩),.agg #[.int .i64 o.f0,.int .i64 o.f1]] w0 (DoPost n s gm A c env w0):=by
 have kb1:(o.f0 == 1) = false:=by rw [beq_eq_false_iff_ne];omega
 have kb2:(o.f0 == 2) = true:=beq_iff_eq.2 hk
 obtain ⟨A1,c1,ev⟩:=Kd.R_slice hM0.own
 subst ev
 obtain ⟨j,hj⟩:∃ j:Nat,o.f1 = (j:Int):=⟨o.f1.toNat,by omega⟩
 obtain ⟨ad,ea,_⟩:=Kd.at_int (hM0.env w0 (Below.refl _ _)) (j:Int) (by omega) (by omega)
 subst ea
 have hrd:rd env (j:Int) = n:=by rw [← hj];exact hn
 have hp2:(0 ≤ (j:Int)) = True:=eq_true (by omega)
 have hq2:((j:Int) < (env.length:Int)) = True:=eq_true (by omega)
 have hjl:j < env.length:=by omega
 have HM0:=zA hM0
 have HL:=zA hl
 rw [hj]
 clear hM0 hl hk hn hj0 hj1 hj
 by_cases h1:n < -1000000
 ·have q1:decide (n < -1000000) = true:=zQ h1
  have HP:=zA (show pushS n s = .error 8 by unfold pushS;rw [if_pos (.inl h1)])
  go_enter Tryd.func83,Tryd.ntmps83
  go_wp2_with (first|((with_reducible refine zV (N:=3) rfl ?_);refine bq 3 (cs:=#[.int .i64 o.f0,.int .i64 (j:Int)]) (t:=65) ?_;intro gb hg w hbox hb;have HM:=zA (HM0.out.mono hb);have HBW:=zA (hb.mono (Nat.le_of_lt (blk_lt HM0.out.cells)));have HZ:=zA (show gm + 1 ≤ w.heap.size from blk_lt HM.out.cells);have k0:w.cell? ⟨gb,0,none⟩ = some (.int .i64 o.f0):=zI hbox 0;have k1:w.cell? ⟨gb,1,none⟩ = some (.int .i64 (j:Int)):=zI hbox 1;have c0:w.cell? ⟨gm,0,none⟩ = some (.slice A1 (s).length c1):=zI HM.out.cells 0;have ce:w.cell? ⟨gm,1,none⟩ = some (.slice (some ad) env.length c):=zI HM.out.cells 1;have cv:w.cell? (ad.add j) = some (.int .i64 n):=by { have:=(Kd.at_int (HM.out.env w (Below.refl _ _)) (j:Int) (by omega) (by omega));obtain ⟨ad',e',k'⟩:=this;cases e';rw [hrd,Int.toNat_natCast] at k';exact k' };have HMP1:=zA HM.out.drew;have HBP1:=zA HBW.out.drew;have HZP1:=zA (show gm + 1 ≤ w.drew.heap.size from blk_lt HM.out.cells);clear hb hbox hg))
  clear hp2 hq2
  have hp2:(0 ≤ (j:Int)) = True:=eq_true (by omega)
  have hq2:((j:Int) < (env.length:Int)) = True:=eq_true (by omega)
  have hd2:decide (j < env.length) = true:=zQ hjl
  go_region
  have c0d:w.drew.cell? ⟨gm,0,none⟩ = some (.slice A1 s.length c1):=c0
  obtain ⟨w2,hw2⟩:∃ w2,w2 = w.drew:=⟨_,rfl⟩
  rw [← hw2] at HMP1 HBP1 HZP1 c0d ⊢
  clear hw2 c0 ce cv
  go_wp2_with (first|fail)
  exact ⟨rfl,by unfold DoPost;exact ⟨HBP1.out,by rw [HP.out]⟩⟩
 have q1:decide (n < -1000000) = false:=zR h1
 by_cases h2:n > 1000000
 ·have q2:decide (n > 1000000) = true:=zQ h2
  have HP:=zA (show pushS n s = .error 8 by unfold pushS;rw [if_pos (.inr h2)])
  go_enter Tryd.func83,Tryd.ntmps83
  go_wp2_with (first|((with_reducible refine zV (N:=3) rfl ?_);refine bq 3 (cs:=#[.int .i64 o.f0,.int .i64 (j:Int)]) (t:=65) ?_;intro gb hg w hbox hb;have HM:=zA (HM0.out.mono hb);have HBW:=zA (hb.mono (Nat.le_of_lt (blk_lt HM0.out.cells)));have HZ:=zA (show gm + 1 ≤ w.heap.size from blk_lt HM.out.cells);have k0:w.cell? ⟨gb,0,none⟩ = some (.int .i64 o.f0):=zI hbox 0;have k1:w.cell? ⟨gb,1,none⟩ = some (.int .i64 (j:Int)):=zI hbox 1;have c0:w.cell? ⟨gm,0,none⟩ = some (.slice A1 (s).length c1):=zI HM.out.cells 0;have ce:w.cell? ⟨gm,1,none⟩ = some (.slice (some ad) env.length c):=zI HM.out.cells 1;have cv:w.cell? (ad.add j) = some (.int .i64 n):=by { have:=(Kd.at_int (HM.out.env w (Below.refl _ _)) (j:Int) (by omega) (by omega));obtain ⟨ad',e',k'⟩:=this;cases e';rw [hrd,Int.toNat_natCast] at k';exact k' };have HMP1:=zA HM.out.drew;have HBP1:=zA HBW.out.drew;have HZP1:=zA (show gm + 1 ≤ w.drew.heap.size from blk_lt HM.out.cells);clear hb hbox hg))
  clear hp2 hq2
  have hp2:(0 ≤ (j:Int)) = True:=eq_true (by omega)
  have hq2:((j:Int) < (env.length:Int)) = True:=eq_true (by omega)
  have hd2:decide (j < env.length) = true:=zQ hjl
  go_region
  have c0d:w.drew.cell? ⟨gm,0,none⟩ = some (.slice A1 s.length c1):=c0
  obtain ⟨w2,hw2⟩:∃ w2,w2 = w.drew:=⟨_,rfl⟩
  rw [← hw2] at HMP1 HBP1 HZP1 c0d ⊢
  clear hw2 c0 ce cv
  go_wp2_with (first|fail)
  exact ⟨rfl,by unfold DoPost;exact ⟨HBP1.out,by rw [HP.out]⟩⟩
 have q2:decide (n > 1000000) = false:=zR h2
 have HP:=zA (show pushS n s = .ok (s ++ [n]) by unfold pushS;rw [if_neg (by omega)])
 go_enter Tryd.func83,Tryd.ntmps83
 go_wp2_with (first|((with_reducible refine zV (N:=3) rfl ?_);refine bq 3 (cs:=#[.int .i64 o.f0,.int .i64 (j:Int)]) (t:=65) ?_;intro gb hg w hbox hb;have HM:=zA (HM0.out.mono hb);have HBW:=zA (hb.mono (Nat.le_of_lt (blk_lt HM0.out.cells)));have HZ:=zA (show gm + 1 ≤ w.heap.size from blk_lt HM.out.cells);have k0:w.cell? ⟨gb,0,none⟩ = some (.int .i64 o.f0):=zI hbox 0;have k1:w.cell? ⟨gb,1,none⟩ = some (.int .i64 (j:Int)):=zI hbox 1;have c0:w.cell? ⟨gm,0,none⟩ = some (.slice A1 (s).length c1):=zI HM.out.cells 0;have ce:w.cell? ⟨gm,1,none⟩ = some (.slice (some ad) env.length c):=zI HM.out.cells 1;have cv:w.cell? (ad.add j) = some (.int .i64 n):=by { have:=(Kd.at_int (HM.out.env w (Below.refl _ _)) (j:Int) (by omega) (by omega));obtain ⟨ad',e',k'⟩:=this;cases e';rw [hrd,Int.toNat_natCast] at k';exact k' };have HMP1:=zA HM.out.drew;have HBP1:=zA HBW.out.drew;have HZP1:=zA (show gm + 1 ≤ w.drew.heap.size from blk_lt HM.out.cells);clear hb hbox hg))
 clear hp2 hq2
 have hp2:(0 ≤ (j:Int)) = True:=eq_true (by omega)
 have hq2:((j:Int) < (env.length:Int)) = True:=eq_true (by omega)
 have hd2:decide (j < env.length) = true:=zQ hjl
 go_region
 have c0d:w.drew.cell? ⟨gm,0,none⟩ = some (.slice A1 s.length c1):=c0
 obtain ⟨w2,hw2⟩:∃ w2,w2 = w.drew:=⟨_,rfl⟩
 rw [← hw2] at HMP1 HBP1 HZP1 c0d ⊢
 clear hw2 c0 ce cv
 go_wp2_with (first|(at_builtin;refine Kd.R_append (Kd.int .i64) (gm + 1) rfl (.tmp 60) (.tmp 62) 37 3 (.int .i64 0) 8 rfl Tryd.underlying37 info3 rfl (by decide) (by decide) (.slice A1 (s).length c1) (s) (n) [.int .i64 (n)] (fun _=>True) (fun _=>False) rfl rfl ?aP (fun _ h=>h.elim) (fun _ _=>trivial) HMP1.out.own (Below.refl _ _) HZP1.out (qo HL) ?_;(case aP=>rfl);intro v1 w1 ho hb hg hat;obtain ⟨A2,c2,e2⟩:=Kd.R_slice ho;subst e2;have HO1:=zA ho;have HB1:=zA hb;have kc:w1.cell? ⟨gm,0,none⟩ = some (.slice A1 (s).length c1):=zI ((hb.block gm (Nat.lt_succ_self gm)).trans HMP1.out.cells) 0;have kz:w1.frozen? ⟨gm,0,none⟩ = false:=zJ ((hb.block gm (Nat.lt_succ_self gm)).trans HMP1.out.cells) 0;clear ho hb hg hat))
 go_end0
 have ho:=HO1.out
 rw [show ((s) ++ [n]).length = (s).length + 1 by simp] at ho
 have hb:=HBP1.out.trans ((HB1.out.mono (Nat.le_succ gm)).setCell (p:=⟨gm,0,none⟩) (Nat.le_refl _) (.slice A2 ((s).length + 1) c2))
 unfold DoPost
 exact ⟨hb,by rw [HP.out];exact ⟨rfl,_,HMP1.out.pushed HL.out ho HB1.out⟩⟩
theorem kind_wf {k:Int} (h:3 ≤ k∧k ≤ 9):(Lit.int .i64 k).wf = true:=by simp [Lit.wf,IntKind.min,IntKind.max,IntKind.signed,IntKind.bits];omega
def mapPs (cap:Array Value):List (Value × Value):=[] ++ [(.int .i64 3,.func (Fn.func 96) #[] cap)] ++ [(.int .i64 4,.func (Fn.func 97) #[] cap)] ++ [(.int .i64 5,.func (Fn.func 98) #[] cap)] ++ [(.int .i64 6,.func (Fn.func 99) #[] cap)] ++ [(.int .i64 7,.func (Fn.func 101) #[] cap)] ++ [(.int .i64 8,.func (Fn.func 102) #[] cap)] ++ [(.int .i64 9,.func (Fn.func 103) #[] cap)]
theorem kind_one {k:Int} (h:3 ≤ k∧k ≤ 9) (cap:Array Value):∀ p ∈ mapPs cap,p.1 = .int .i64 k → p.2 = .func (Fn.func (cloN k)) #[] cap:=by
 intro p hp e
 have:k = 3 ∨ k = 4 ∨ k = 5 ∨ k = 6 ∨ k = 7 ∨ k = 8 ∨ k = 9:=by omega
 simp only [mapPs,List.nil_append,List.cons_append,List.mem_cons,List.not_mem_nil,or_false] at hp
 rcases hp with rfl|rfl|rfl|rfl|rfl|rfl|rfl <;> (simp only [Value.int.injEq,true_and] at e;subst e;rfl)
theorem kind_in {k:Int} (h:3 ≤ k∧k ≤ 9) (cap:Array Value):∃ p ∈ mapPs cap,p.1 = .int .i64 k:=by
 have:k = 3 ∨ k = 4 ∨ k = 5 ∨ k = 6 ∨ k = 7 ∨ k = 8 ∨ k = 9:=by omega
 rcases this with rfl|rfl|rfl|rfl|rfl|rfl|rfl
 ·exact ⟨(.int .i64 3,.func (Fn.func 96) #[] cap),by simp [mapPs],rfl⟩
 ·exact ⟨(.int .i64 4,.func (Fn.func 97) #[] cap),by simp [mapPs],rfl⟩
 ·exact ⟨(.int .i64 5,.func (Fn.func 98) #[] cap),by simp [mapPs],rfl⟩
 ·exact ⟨(.int .i64 6,.func (Fn.func 99) #[] cap),by simp [mapPs],rfl⟩
 ·exact ⟨(.int .i64 7,.func (Fn.func 101) #[] cap),by simp [mapPs],rfl⟩
 ·exact ⟨(.int .i64 8,.func (Fn.func 102) #[] cap),by simp [mapPs],rfl⟩
 ·exact ⟨(.int .i64 9,.func (Fn.func 103) #[] cap),by simp [mapPs],rfl⟩
theorem enter65 (args:Array Value) (w:World):(callFunc 96 args).run Tryd.prog w = .ok (.enter 96 args) w:=by kernel_rfl
theorem enter66 (args:Array Value) (w:World):(callFunc 97 args).run Tryd.prog w = .ok (.enter 97 args) w:=by kernel_rfl
theorem enter67 (args:Array Value) (w:World):(callFunc 98 args).run Tryd.prog w = .ok (.enter 98 args) w:=by kernel_rfl
theorem enter68 (args:Array Value) (w:World):(callFunc 99 args).run Tryd.prog w = .ok (.enter 99 args) w:=by kernel_rfl
theorem enter70 (args:Array Value) (w:World):(callFunc 101 args).run Tryd.prog w = .ok (.enter 101 args) w:=by kernel_rfl
theorem enter71 (args:Array Value) (w:World):(callFunc 102 args).run Tryd.prog w = .ok (.enter 102 args) w:=by kernel_rfl
theorem enter72 (args:Array Value) (w:World):(callFunc 103 args).run Tryd.prog w = .ok (.enter 103 args) w:=by kernel_rfl
theorem clo_enter {kd:Int} (hk:3 ≤ kd∧kd ≤ 9) (args:Array Value) (w:World):(callFunc (cloN kd) args).run Tryd.prog w = .ok (.enter (cloN kd) args) w:=by
 have:kd = 3 ∨ kd = 4 ∨ kd = 5 ∨ kd = 6 ∨ kd = 7 ∨ kd = 8 ∨ kd = 9:=by omega
 rcases this with e|e|e|e|e|e|e <;> subst e
 ·exact enter65 _ _
 ·exact enter66 _ _
 ·exact enter67 _ _
 ·exact enter68 _ _
 ·exact enter70 _ _
 ·exact enter71 _ _
 ·exact enter72 _ _
theorem mapT81:Tryd.prog.underlying 126 = some (.map 3 117):=by kernel_rfl
def KeysOk (ps:List (Value × Value)):Prop:=∀ p ∈ ps,∃ n:Int,p.1 = .int .i64 n∧(Lit.int .i64 n).wf = true
theorem keys_ok {ps:List (Value × Value)} (h:KeysOk ps):∀ p ∈ ps,∃ l,keyOf Tryd.prog 3 p.1 = some l:=fun p hp=>by
 obtain ⟨n,e,hw⟩:=h p hp
 exact ⟨_,by rw [e];exact Go.Maps.keyOf_int_mk Tryd.underlying3 hw⟩
theorem keys_nil:KeysOk []:=fun p hp=>by cases hp
theorem keys_add {ps:List (Value × Value)} {n:Int} {v:Value} (h:KeysOk ps) (hw:(Lit.int .i64 n).wf = true):KeysOk (ps ++ [(.int .i64 n,v)]):=fun p hp=>by
 rcases List.mem_append.1 hp with hp|hp
 ·exact h p hp
 ·rw [List.mem_singleton.1 hp];exact ⟨n,rfl,hw⟩
set_option maxHeartbeats 4000000 in
theorem do_bin (gm:Nat) (v:Value) (s:List Int) (a b:Int) (A:Option Addr) (c:Nat) (env:List Int) (o:S65) (n:Int) (hn:doVal o.f0 a b = n) (hk:3 ≤ o.f0∧o.f0 ≤ 9) (ha:-1000000 ≤ a∧a ≤ 1000000) (hb:-1000000 ≤ b∧b ≤ 1000000) (w0:World) (hl:s.length < 60) (hM0:MachOK w0 gm v (s ++ [b] ++ [a]) A c env) :
  Calls Tryd.prog 83 #[.pointer (some ⟨gm,0,none⟩),.agg #[.int .i64 o.f0,.int .i64 o.f1]] w0 (DoPost n s gm A c env w0):=by
 have hmf:∀ (fn:Fn) (first cap:Array Value) (w:World),(Instr.makeFunc fn first cap).run Tryd.prog w = .ok (.func fn first cap) w:=fun _ _ _ _=>rfl
 have kb1:(o.f0 == 1) = false:=by rw [beq_eq_false_iff_ne];omega
 have kb2:(o.f0 == 2) = false:=by rw [beq_eq_false_iff_ne];omega
 have kb11:(o.f0 == 11) = false:=by rw [beq_eq_false_iff_ne];omega
 have kb12:(o.f0 == 12) = false:=by rw [beq_eq_false_iff_ne];omega
 have kb10:(o.f0 == 10) = false:=by rw [beq_eq_false_iff_ne];omega
 obtain ⟨A1,c1,ev⟩:=Kd.R_slice hM0.own
 subst ev
 have HM0:=zA hM0
 have HL:=zA hl
 have HK:=zA hk
 have HN:=zA hn
 have HA:=zA ha
 have HB:=zA hb
 clear hM0 hl hk ha hb hn
 go_enter Tryd.func83,Tryd.ntmps83
 go_wp2_with (first|((with_reducible refine zV (N:=3) rfl ?_);refine bq 3 (cs:=#[.int .i64 o.f0,.int .i64 o.f1]) (t:=65) ?_;intro gb hg w hbox hb;have HM:=zA (HM0.out.mono hb);have HBW:=zA (hb.mono (Nat.le_of_lt (blk_lt HM0.out.cells)));have HZ:=zA (show gm + 1 ≤ w.heap.size from blk_lt HM.out.cells);have k0:w.cell? ⟨gb,0,none⟩ = some (.int .i64 o.f0):=zI hbox 0;have k1:w.cell? ⟨gb,1,none⟩ = some (.int .i64 o.f1):=zI hbox 1;have c0:w.cell? ⟨gm,0,none⟩ = some (.slice A1 (s ++ [b] ++ [a]).length c1):=zI HM.out.cells 0;have HBX0:=zA hbox;have HGB0:=zA (show gm ≠ gb by rw [hg];have:=blk_lt HM0.out.cells;omega);clear hb hbox hg)|(go_at_call 84;(with_reducible refine (pop_calls gm _ (s ++ [b]) a A c env _ HM.out).mono ?_);rintro e wp1 ⟨rfl,vp1,hmp,hbp,hgp⟩;obtain ⟨Ap1,cp1,evp⟩:=Kd.R_slice hmp.own;subst evp;have HMP1:=zA hmp;have HBP1:=zA (HBW.out.trans hbp);have HZP1:=zA (show gm + 1 ≤ wp1.heap.size from blk_lt hmp.cells);have c0p1:wp1.cell? ⟨gm,0,none⟩ = some (.slice Ap1 (s ++ [b]).length cp1):=zI hmp.cells 0;have HBX1:=zA ((hgp.block gb (blk_lt HBX0.out) (by intro e;injection e with e;exact HGB0.out e.symm)).trans HBX0.out);clear hmp hbp hgp))
 refine (pop_calls gm _ s b A c env _ HMP1.out).mono ?_
 rintro e wp2 ⟨rfl,vp2,hmp,hbp,hgp⟩
 obtain ⟨Ap2,cp2,evp⟩:=Kd.R_slice hmp.own
 subst evp
 have HBX2:=zA ((hgp.block gb (blk_lt HBX1.out) (by intro e;injection e with e;exact HGB0.out e.symm)).trans HBX1.out)
 have HMP2:=zA hmp
 have HBP2:=zA (HBP1.out.trans hbp)
 clear hmp hbp hgp k0 k1 c0 c0p1
 go_wp2_with fail
 have hszA:∀ (W:World) (o:Obj),(W.alloc o).heap.size = W.heap.size + 1:=size_alloc
 obtain ⟨w3,hw3⟩:∃ w3,w3 = (wp2.alloc (Obj.cells #[Value.int IntKind.i64 a] 3)).alloc (Obj.cells #[Value.int IntKind.i64 b] 3):=⟨_,rfl⟩
 have hs3:w3.heap.size = wp2.heap.size + 1 + 1:=by rw [hw3];simp [hszA]
 have hb3:Below wp2.heap.size wp2 w3:=by rw [hw3];exact zD (zD (Below.refl _ _) _) _
 have ha3:w3.heap[wp2.heap.size]? = some (Obj.cells #[Value.int IntKind.i64 a] 3 (0,0)):=by rw [hw3,heap_old _ (by simp)];exact heap_new _ _
 have hb3':w3.heap[wp2.heap.size + 1]? = some (Obj.cells #[Value.int IntKind.i64 b] 3 (0,0)):=by rw [hw3,← hszA wp2 (Obj.cells #[Value.int IntKind.i64 a] 3)];exact heap_new _ _
 rw [← hw3]
 clear hw3
 have HGB:=zA (zS (blk_lt HBX2.out) hb3.size)
 have HBX:=zA ((hb3.block gb (blk_lt HBX2.out)).trans HBX2.out)
 have HMap:=zA (MapIs.made w3)
 have HG:=zA (World.grownBy.refl (w3.alloc (.map #[] 0)) (some w3.heap.size))
 have HKs:=zA keys_nil
 have hHBX:=(heap_old (.map #[] 0) HGB.out).trans HBX.out
 clear HBX
 have HBX:=zA hHBX
 have HZ3:=zA (show gb < (w3.alloc (.map #[] 0)).heap.size by have:=HGB.out;simp;omega)
 clear hHBX
 have HA3:=zA ha3
 have HB3:=zA hb3'
 have HBB3:=zA hb3
 have HS3:=zA hs3
 clear ha3 hb3' hb3 hs3 hszA
 rw [run_makeMap]
 go_simp
 go_wp2_with (first|(refine wpList_insert_is _ rfl (.tmp 13) (.const (.int .i64 3)) (.tmp 14) 126 rfl 3 117 (Go.Maps.int_keyed Tryd.underlying3) mapT81 w3.heap.size _ rfl HMap.out (.int .i64 3) (.func (Fn.func 96) #[] #[.pointer (some ⟨wp2.heap.size,0,none⟩),.pointer (some ⟨wp2.heap.size + 1,0,none⟩)]) (.int .i64 3) rfl rfl (Go.Maps.keyOf_int_mk Tryd.underlying3 (by decide)) (keys_ok HKs.out) ?hn ?_;(case hn=>simp);intro wi hmi hgi;have n0:=zA hmi;have n1:=zA (grownBy_trans HG.out hgi);have n2:=zA (keys_add (n:=3) (v:=(.func (Fn.func 96) #[] #[.pointer (some ⟨wp2.heap.size,0,none⟩),.pointer (some ⟨wp2.heap.size + 1,0,none⟩)])) HKs.out (by decide));clear HMap HG HKs hmi hgi;have HMap:=n0;have HG:=n1;have HKs:=n2;clear n0 n1 n2;(try clear kk);have kk:wi.cell? ⟨gb,0,none⟩ = some (.int .i64 o.f0):=zI ((HG.out.block gb HZ3.out (by have:=HGB.out;intro e;injection e with e;omega)).trans HBX.out) 0)|(refine wpList_insert_is _ rfl (.tmp 13) (.const (.int .i64 4)) (.tmp 15) 126 rfl 3 117 (Go.Maps.int_keyed Tryd.underlying3) mapT81 w3.heap.size _ rfl HMap.out (.int .i64 4) (.func (Fn.func 97) #[] #[.pointer (some ⟨wp2.heap.size,0,none⟩),.pointer (some ⟨wp2.heap.size + 1,0,none⟩)]) (.int .i64 4) rfl rfl (Go.Maps.keyOf_int_mk Tryd.underlying3 (by decide)) (keys_ok HKs.out) ?hn ?_;(case hn=>simp);intro wi hmi hgi;have n0:=zA hmi;have n1:=zA (grownBy_trans HG.out hgi);have n2:=zA (keys_add (n:=4) (v:=(.func (Fn.func 97) #[] #[.pointer (some ⟨wp2.heap.size,0,none⟩),.pointer (some ⟨wp2.heap.size + 1,0,none⟩)])) HKs.out (by decide));clear HMap HG HKs hmi hgi;have HMap:=n0;have HG:=n1;have HKs:=n2;clear n0 n1 n2;(try clear kk);have kk:wi.cell? ⟨gb,0,none⟩ = some (.int .i64 o.f0):=zI ((HG.out.block gb HZ3.out (by have:=HGB.out;intro e;injection e with e;omega)).trans HBX.out) 0)|(refine wpList_insert_is _ rfl (.tmp 13) (.const (.int .i64 5)) (.tmp 16) 126 rfl 3 117 (Go.Maps.int_keyed Tryd.underlying3) mapT81 w3.heap.size _ rfl HMap.out (.int .i64 5) (.func (Fn.func 98) #[] #[.pointer (some ⟨wp2.heap.size,0,none⟩),.pointer (some ⟨wp2.heap.size + 1,0,none⟩)]) (.int .i64 5) rfl rfl (Go.Maps.keyOf_int_mk Tryd.underlying3 (by decide)) (keys_ok HKs.out) ?hn ?_;(case hn=>simp);intro wi hmi hgi;have n0:=zA hmi;have n1:=zA (grownBy_trans HG.out hgi);have n2:=zA (keys_add (n:=5) (v:=(.func (Fn.func 98) #[] #[.pointer (some ⟨wp2.heap.size,0,none⟩),.pointer (some ⟨wp2.heap.size + 1,0,none⟩)])) HKs.out (by decide));clear HMap HG HKs hmi hgi;have HMap:=n0;have HG:=n1;have HKs:=n2;clear n0 n1 n2;(try clear kk);have kk:wi.cell? ⟨gb,0,none⟩ = some (.int .i64 o.f0):=zI ((HG.out.block gb HZ3.out (by have:=HGB.out;intro e;injection e with e;omega)).trans HBX.out) 0)|(refine wpList_insert_is _ rfl (.tmp 13) (.const (.int .i64 6)) (.tmp 17) 126 rfl 3 117 (Go.Maps.int_keyed Tryd.underlying3) mapT81 w3.heap.size _ rfl HMap.out (.int .i64 6) (.func (Fn.func 99) #[] #[.pointer (some ⟨wp2.heap.size,0,none⟩),.pointer (some ⟨wp2.heap.size + 1,0,none⟩)]) (.int .i64 6) rfl rfl (Go.Maps.keyOf_int_mk Tryd.underlying3 (by decide)) (keys_ok HKs.out) ?hn ?_;(case hn=>simp);intro wi hmi hgi;have n0:=zA hmi;have n1:=zA (grownBy_trans HG.out hgi);have n2:=zA (keys_add (n:=6) (v:=(.func (Fn.func 99) #[] #[.pointer (some ⟨wp2.heap.size,0,none⟩),.pointer (some ⟨wp2.heap.size + 1,0,none⟩)])) HKs.out (by decide));clear HMap HG HKs hmi hgi;have HMap:=n0;have HG:=n1;have HKs:=n2;clear n0 n1 n2;(try clear kk);have kk:wi.cell? ⟨gb,0,none⟩ = some (.int .i64 o.f0):=zI ((HG.out.block gb HZ3.out (by have:=HGB.out;intro e;injection e with e;omega)).trans HBX.out) 0)|(refine wpList_insert_is _ rfl (.tmp 13) (.const (.int .i64 7)) (.tmp 18) 126 rfl 3 117 (Go.Maps.int_keyed Tryd.underlying3) mapT81 w3.heap.size _ rfl HMap.out (.int .i64 7) (.func (Fn.func 101) #[] #[.pointer (some ⟨wp2.heap.size,0,none⟩),.pointer (some ⟨wp2.heap.size + 1,0,none⟩)]) (.int .i64 7) rfl rfl (Go.Maps.keyOf_int_mk Tryd.underlying3 (by decide)) (keys_ok HKs.out) ?hn ?_;(case hn=>simp);intro wi hmi hgi;have n0:=zA hmi;have n1:=zA (grownBy_trans HG.out hgi);have n2:=zA (keys_add (n:=7) (v:=(.func (Fn.func 101) #[] #[.pointer (some ⟨wp2.heap.size,0,none⟩),.pointer (some ⟨wp2.heap.size + 1,0,none⟩)])) HKs.out (by decide));clear HMap HG HKs hmi hgi;have HMap:=n0;have HG:=n1;have HKs:=n2;clear n0 n1 n2;(try clear kk);have kk:wi.cell? ⟨gb,0,none⟩ = some (.int .i64 o.f0):=zI ((HG.out.block gb HZ3.out (by have:=HGB.out;intro e;injection e with e;omega)).trans HBX.out) 0)|(refine wpList_insert_is _ rfl (.tmp 13) (.const (.int .i64 8)) (.tmp 19) 126 rfl 3 117 (Go.Maps.int_keyed Tryd.underlying3) mapT81 w3.heap.size _ rfl HMap.out (.int .i64 8) (.func (Fn.func 102) #[] #[.pointer (some ⟨wp2.heap.size,0,none⟩),.pointer (some ⟨wp2.heap.size + 1,0,none⟩)]) (.int .i64 8) rfl rfl (Go.Maps.keyOf_int_mk Tryd.underlying3 (by decide)) (keys_ok HKs.out) ?hn ?_;(case hn=>simp);intro wi hmi hgi;have n0:=zA hmi;have n1:=zA (grownBy_trans HG.out hgi);have n2:=zA (keys_add (n:=8) (v:=(.func (Fn.func 102) #[] #[.pointer (some ⟨wp2.heap.size,0,none⟩),.pointer (some ⟨wp2.heap.size + 1,0,none⟩)])) HKs.out (by decide));clear HMap HG HKs hmi hgi;have HMap:=n0;have HG:=n1;have HKs:=n2;clear n0 n1 n2;(try clear kk);have kk:wi.cell? ⟨gb,0,none⟩ = some (.int .i64 o.f0):=zI ((HG.out.block gb HZ3.out (by have:=HGB.out;intro e;injection e with e;omega)).trans HBX.out) 0)|(refine wpList_insert_is _ rfl (.tmp 13) (.const (.int .i64 9)) (.tmp 20) 126 rfl 3 117 (Go.Maps.int_keyed Tryd.underlying3) mapT81 w3.heap.size _ rfl HMap.out (.int .i64 9) (.func (Fn.func 103) #[] #[.pointer (some ⟨wp2.heap.size,0,none⟩),.pointer (some ⟨wp2.heap.size + 1,0,none⟩)]) (.int .i64 9) rfl rfl (Go.Maps.keyOf_int_mk Tryd.underlying3 (by decide)) (keys_ok HKs.out) ?hn ?_;(case hn=>simp);intro wi hmi hgi;have n0:=zA hmi;have n1:=zA (grownBy_trans HG.out hgi);have n2:=zA (keys_add (n:=9) (v:=(.func (Fn.func 103) #[] #[.pointer (some ⟨wp2.heap.size,0,none⟩),.pointer (some ⟨wp2.heap.size + 1,0,none⟩)])) HKs.out (by decide));clear HMap HG HKs hmi hgi;have HMap:=n0;have HG:=n1;have HKs:=n2;clear n0 n1 n2;(try clear kk);have kk:wi.cell? ⟨gb,0,none⟩ = some (.int .i64 o.f0):=zI ((HG.out.block gb HZ3.out (by have:=HGB.out;intro e;injection e with e;omega)).trans HBX.out) 0))
 have hlook:=MapIs.look_some HMap.out (Go.Maps.int_keyed Tryd.underlying3) mapT81 (keys_ok HKs.out) (key:=.int .i64 o.f0) (v:=.func (Fn.func (cloN o.f0)) #[] #[.pointer (some ⟨wp2.heap.size,0,none⟩),.pointer (some ⟨wp2.heap.size + 1,0,none⟩)]) (Go.Maps.keyOf_int_mk Tryd.underlying3 (kind_wf HK.out)) false (kind_one HK.out _) (kind_in HK.out _)
 simp only [Bool.false_eq_true,if_false] at hlook
 rw [hlook]
 clear hlook kk
 have hbi:Below wp2.heap.size wp2 wi:=(zD HBB3.out _).grown HG.out (by have:=HBB3.out.size;simp;omega) (fun k hk=>by injection hk with hk;rw [← hk];exact HBB3.out.size)
 have hai:wi.heap[wp2.heap.size]? = some (Obj.cells #[Value.int IntKind.i64 a] 3 (0,0)):=(HG.out.block _ (by have:=blk_lt HA3.out;simp;omega) (by have:=blk_lt HA3.out;intro e;injection e with e;omega)).trans ((heap_old _ (blk_lt HA3.out)).trans HA3.out)
 have hbi':wi.heap[wp2.heap.size + 1]? = some (Obj.cells #[Value.int IntKind.i64 b] 3 (0,0)):=(HG.out.block _ (by have:=blk_lt HB3.out;simp;omega) (by have:=blk_lt HB3.out;intro e;injection e with e;omega)).trans ((heap_old _ (blk_lt HB3.out)).trans HB3.out)
 have HCl:=zA (clo_calls o.f0 HK.out wp2.heap.size (wp2.heap.size + 1) a b wi hai hbi' HA.out HB.out)
 have HM5:=zA (HMP2.out.mono hbi)
 have HZ5:=zA (show gm + 1 ≤ wi.heap.size from blk_lt HM5.out.cells)
 have HBP5:=zA (HBP2.out.trans (hbi.mono (Nat.le_of_lt (blk_lt HMP2.out.cells))))
 have c05:wi.cell? ⟨gm,0,none⟩ = some (.slice Ap2 s.length cp2):=zI HM5.out.cells 0
 clear hai hbi hbi'
 rw [HN.out] at HCl
 go_simp
 go_wp2_with fail
 rw [clo_enter HK.out,Oper.upon_enter]
 refine HCl.out.mono ?_
 rintro e w5 ⟨rfl,rfl⟩
 by_cases h1:n < -1000000
 ·have q1:decide (n < -1000000) = true:=zQ h1
  have HP:=zA (show pushS n s = .error 8 by unfold pushS;rw [if_pos (.inl h1)])
  go_wp2_with fail
  exact ⟨rfl,by unfold DoPost;exact ⟨HBP5.out,by rw [HP.out]⟩⟩
 have q1:decide (n < -1000000) = false:=zR h1
 by_cases h2:n > 1000000
 ·have q2:decide (n > 1000000) = true:=zQ h2
  have HP:=zA (show pushS n s = .error 8 by unfold pushS;rw [if_pos (.inr h2)])
  go_wp2_with fail
  exact ⟨rfl,by unfold DoPost;exact ⟨HBP5.out,by rw [HP.out]⟩⟩
 have q2:decide (n > 1000000) = false:=zR h2
 have HP:=zA (show pushS n s = .ok (s ++ [n]) by unfold pushS;rw [if_neg (by omega)])
 go_wp2_with (first|(at_builtin;refine Kd.R_append (Kd.int .i64) (gm + 1) rfl (.tmp 60) (.tmp 62) 37 3 (.int .i64 0) 8 rfl Tryd.underlying37 info3 rfl (by decide) (by decide) (.slice Ap2 (s).length cp2) (s) (n) [.int .i64 (n)] (fun _=>True) (fun _=>False) rfl rfl ?aP (fun _ h=>h.elim) (fun _ _=>trivial) HM5.out.own (Below.refl _ _) HZ5.out (qo HL) ?_;(case aP=>rfl);intro v1 w1 ho hb hg hat;obtain ⟨A2,c2,e2⟩:=Kd.R_slice ho;subst e2;have HO1:=zA ho;have HB1:=zA hb;have kc:w1.cell? ⟨gm,0,none⟩ = some (.slice Ap2 (s).length cp2):=zI ((hb.block gm (Nat.lt_succ_self gm)).trans HM5.out.cells) 0;have kz:w1.frozen? ⟨gm,0,none⟩ = false:=zJ ((hb.block gm (Nat.lt_succ_self gm)).trans HM5.out.cells) 0;clear ho hb hg hat))
 go_end0
 have ho:=HO1.out
 rw [show ((s) ++ [n]).length = (s).length + 1 by simp] at ho
 have hb:=HBP5.out.trans ((HB1.out.mono (Nat.le_succ gm)).setCell (p:=⟨gm,0,none⟩) (Nat.le_refl _) (.slice A2 ((s).length + 1) c2))
 unfold DoPost
 exact ⟨hb,by rw [HP.out];exact ⟨rfl,_,HM5.out.pushed HL.out ho HB1.out⟩⟩
theorem runS_err (env:List Int):∀ (l:List S65) (i:Nat) (c:Int),Pure.runS env (l.drop i) = .error c → Pure.runS env l = .error c
 | l,0,c,h=>h
 | [],i + 1,c,h=>by simp at h;exact h
 | o :: l,i + 1,c,h=>by
  have:=runS_err env l i c h
  rw [Pure.runS,this]
theorem do_any (gm:Nat) (v:Value) (stk:List Int) (A:Option Addr) (c:Nat) (env:List Int) (o:S65) (hk1:1 ≤ o.f0) (hk2:o.f0 ≤ 12) (h10:o.f0 = 10 → 1 ≤ stk.length) (h3:3 ≤ o.f0 → o.f0 ≤ 9 → 2 ≤ stk.length) (hv:o.f0 = 2 → 0 ≤ o.f1∧o.f1 < (env.length:Int)) (hm:env.length ≤ 6)
  (hb:∀ x ∈ stk,-1000000 ≤ x∧x ≤ 1000000) (hl:stk.length < 60) (w:World) (hM:MachOK w gm v stk A c env) :
  Calls Tryd.prog 83 #[.pointer (some ⟨gm,0,none⟩),.agg #[.int .i64 o.f0,.int .i64 o.f1]] w fun e w'=>Below gm w w'∧match Pure.stepS env o stk with
   | .error cc=>e = .panicked [{ v:=.iface 28 (.int .i64 cc),recovered:=false }]
   | .ok s'=>e = .returned (.tuple #[])∧∃ v',MachOK w' gm v' s' A c env:=by
 unfold Pure.stepS
 by_cases k1:o.f0 = 1
 ·rw [if_pos k1];exact do_num gm v stk A c env o k1 w hl hM
 rw [if_neg k1]
 by_cases k2:o.f0 = 2
 ·rw [if_pos k2];exact do_var gm v stk A c env o k2 _ (hv k2).1 (hv k2).2 (by omega) rfl w hl hM
 rw [if_neg k2]
 by_cases k3:o.f0 = 11
 ·rw [if_pos k3];exact do_yes gm v stk A c env o k3 w hl hM
 rw [if_neg k3]
 by_cases k4:o.f0 = 12
 ·rw [if_pos k4];exact do_no gm v stk A c env o k4 w hl hM
 rw [if_neg k4]
 by_cases k5:o.f0 = 10
 ·rw [if_pos k5]
  have hne:stk ≠ []:=by intro e;have:=h10 k5;rw [e] at this;simp at this
  have hd:=List.dropLast_concat_getLast hne
  have hg:stk.getLastD 0 = stk.getLast hne:=by rw [List.getLastD_eq_getLast?,List.getLast?_eq_some_getLast hne];rfl
  rw [hg]
  have hx:=hb _ (List.getLast_mem hne)
  have hM2:MachOK w gm v (stk.dropLast ++ [stk.getLast hne]) A c env:=by rw [hd];exact hM
  exact do_not gm v stk.dropLast (stk.getLast hne) A c env o k5 hx w (by rw [List.length_dropLast];omega) hM2
 ·rw [if_neg k5]
  have h2:=h3 (by omega) (by omega)
  have hne:stk ≠ []:=by intro e;rw [e] at h2;simp at h2
  have hd:=List.dropLast_concat_getLast hne
  have hne2:stk.dropLast ≠ []:=by intro e;have:=congrArg List.length e;rw [List.length_dropLast] at this;simp at this;omega
  have hd2:=List.dropLast_concat_getLast hne2
  have hg:stk.getLastD 0 = stk.getLast hne:=by rw [List.getLastD_eq_getLast?,List.getLast?_eq_some_getLast hne];rfl
  have hg2:stk.dropLast.getLastD 0 = stk.dropLast.getLast hne2:=by rw [List.getLastD_eq_getLast?,List.getLast?_eq_some_getLast hne2];rfl
  rw [hg,hg2]
  have hx:=hb _ (List.getLast_mem hne)
  have hx2:=hb _ ((List.dropLast_sublist _).subset (List.getLast_mem hne2))
  have hM2:MachOK w gm v (stk.dropLast.dropLast ++ [stk.dropLast.getLast hne2] ++ [stk.getLast hne]) A c env:=by rw [hd2,hd];exact hM
  exact do_bin gm v stk.dropLast.dropLast (stk.getLast hne) (stk.dropLast.getLast hne2) A c env o _ rfl ⟨by omega,by omega⟩ hx hx2 w (by rw [List.length_dropLast,List.length_dropLast];omega) hM2
theorem assert_errnoE (c:Int) (W:World):(Instr.typeAssert (.iface 28 (.int .i64 c)) 20 28 false).run Tryd.prog W = .ok (.int .i64 c) W:=by kernel_rfl
theorem catchE_panicking (b1 b2:Nat) (hb:b1 ≠ b2) (c:Int) (older:List PanicEntry) (w:World) (hc:w.cell? ⟨b1,0,none⟩ = some (.int .i64 0)) (hz:w.frozen? ⟨b1,0,none⟩ = false) (hc2:w.cell? ⟨b2,0,none⟩ = some (.int .i64 0)) (hz2:w.frozen? ⟨b2,0,none⟩ = false) :
  CallsD Tryd.prog 82 #[.pointer (some ⟨b1,0,none⟩),.pointer (some ⟨b2,0,none⟩)] (.panicking ({ v:=.iface 28 (.int .i64 c),recovered:=false } :: older)) w fun e u' w' =>
   e = .returned (.tuple #[])∧u' = .panicking ({ v:=.iface 28 (.int .i64 c),recovered:=true } :: older)∧Same w' ((w.setCell ⟨b1,0,none⟩ (.int .i64 0)).setCell ⟨b2,0,none⟩ (.int .i64 c)):=by
 have hc21:(w.setCell ⟨b1,0,none⟩ (.int .i64 0)).cell? ⟨b2,0,none⟩ = some (.int .i64 0):=(World.cell?_setCell_other w ⟨b1,0,none⟩ ⟨b2,0,none⟩ _ (by intro e;injection e with e;exact hb e)).trans hc2
 have hc12:(w.setCell ⟨b2,0,none⟩ (.int .i64 c)).cell? ⟨b1,0,none⟩ = some (.int .i64 0):=(World.cell?_setCell_other w ⟨b2,0,none⟩ ⟨b1,0,none⟩ _ (by intro e;injection e with e;exact hb e.symm)).trans hc
 refine callsD_of_wpS Tryd.func82 rfl fun c₀ cs hu=>?_
 apply wpS_seq
 apply wpS_region
 simp [wpOpsS,go_sem,recoverD,hu,Tryd.ntmps82,Exit.thenS]
 apply wpS_seq
 apply wpS_region
 simp [wpOpsS,go_sem,recoverD,hu,Tryd.ntmps82,Exit.thenS]
 refine wpS_cond (t:=true) (by simp [Act.eval,Array.replicate]) ?_
 simp only [if_true]
 refine wpS_of_wp ?_
 have hta:=assert_errnoE c
 go_region
 all_goals
  cases c₀
  simp_all [bodyPostS,results,Tryd.results82]
  exact Same.drew _
theorem catchE_idle (p q:Value) (w:World) :
  CallsD Tryd.prog 82 #[p,q] .returning w fun e u' w'=>e = .returned (.tuple #[])∧u' = .returning∧w' = w:=by
 refine callsD_of_wpS Tryd.func82 rfl fun c₀ cs hu=>?_
 apply wpS_seq
 apply wpS_region
 simp [wpOpsS,go_sem,recoverD,hu,Tryd.ntmps82,Exit.thenS]
 apply wpS_seq
 apply wpS_region
 simp [wpOpsS,go_sem,Exit.thenS]
 refine wpS_cond (t:=false) (by simp [Act.eval,Array.replicate]) ?_
 simp only [Bool.false_eq_true,if_false]
 refine wpS_of_wp (wp_skip ?_)
 cases c₀
 simp_all [bodyPostS,results,Tryd.results82]
def expr_Eval.f (l0:List S65) (l1:List Int):Option (Int × Int):=some (Pure.evalS l0 l1)
set_option maxHeartbeats 2000000 in
theorem expr_Eval.calls (A0:Option Addr) (c0:Nat) (l0:List S65) (A1:Option Addr) (c1:Nat) (l1:List Int) (r1:Int) (r2:Int) (w:World) (hr0:Kd.C k65 w A0 l0.length l0) (hc0:l0.length ≤ c0) (hr1:Kd.C (Kd.int .i64) w A1 l1.length l1) (hc1:l1.length ≤ c1) (hL:LaidG w) (h:expr_Eval.f l0 l1 = some (r1,r2)) :
  Calls Tryd.prog 54 #[.slice A0 l0.length c0,.slice A1 l1.length c1] w fun e w'=>e = .returned (.tuple #[.int .i64 r1,.int .i64 r2])∧Below w.heap.size w w':=by
 have hmf:∀ (fn:Fn) (first cap:Array Value) (w:World),(Instr.makeFunc fn first cap).run Tryd.prog w = .ok (.func fn first cap) w:=fun _ _ _ _=>rfl
 have h:=Option.some.inj h
 have hml:l1.length ≤ 9223372036854775807:=by have:=hr1.2.1;unfold maxLen at this;exact this
 obtain ⟨K,hK⟩:=Pure.exprCheck_ev l0 (l1.length:Int) ⟨by omega,by omega⟩
 have hA:=hK K (Nat.le_refl _)
 unfold Pure.evalS at h
 have hex:∃ bb er,Pure.exprS l0 l1.length = (bb,er):=⟨_,_,rfl⟩
 obtain ⟨bb,er,hex⟩:=hex
 rw [hex] at h hA
 have HR:=zA hr0
 have HC:=zA hc0
 have HR1:=zA hr1
 have HC1:=zA hc1
 have HLd:=zA hL
 have HA:=zA hA
 have HX:=zA hex
 clear hr0 hc0 hr1 hc1 hL hK hA hex
 have hszA:∀ (W:World) (o:Obj),(W.alloc o).heap.size = W.heap.size + 1:=size_alloc
 obtain ⟨W2,hW2⟩:∃ W2,W2 = (w.alloc (Obj.cells #[Value.int IntKind.i64 0] 3)).alloc (Obj.cells #[Value.int IntKind.i64 0] 28):=⟨_,rfl⟩
 have hB2:Below w.heap.size w W2:=by rw [hW2];exact zD (zD (Below.refl _ _) _) _
 have hs2:W2.heap.size = w.heap.size + 1 + 1:=by rw [hW2];simp [hszA]
 have a1:W2.heap[w.heap.size]? = some (.cells #[Value.int IntKind.i64 0] 3 (0,0)):=by rw [hW2,heap_old _ (by simp)];exact heap_new _ _
 have a2:W2.heap[w.heap.size + 1]? = some (.cells #[Value.int IntKind.i64 0] 28 (0,0)):=by rw [hW2,← hszA w (Obj.cells #[Value.int IntKind.i64 0] 3)];exact heap_new _ _
 have HCk:=zA (expr_Check.calls K A0 c0 l0 (l1.length:Int) bb er W2 (zT HR.out hB2) HC.out (HLd.out.below hB2) HA.out)
 have HA1:=zA a1
 have HA2:=zA a2
 have HB2:=zA hB2
 have HS2:=zA hs2
 clear a1 a2 hB2 hszA hs2
 by_cases her:er = 0
 ·subst her
  rw [if_pos rfl] at h
  obtain ⟨⟨e0,e6⟩,hone,h60,hfit,-,-⟩:=Pure.exprS_ok (l:=l0) (n:=l1.length) (by rw [HX.out])
  have HH:=zA h
  clear h
  go_enter_defers Tryd.func54,Tryd.ntmps54
  go_wp2_with fail
  rw [← hW2]
  refine HCk.out.mono ?_
  rintro e w1 ⟨rfl,hb⟩
  have b1:=(hb.block _ (blk_lt HA1.out)).trans HA1.out
  have b2:=(hb.block _ (blk_lt HA2.out)).trans HA2.out
  have k1:w1.cell? ⟨w.heap.size,0,none⟩ = some (.int .i64 0):=zI b1 0
  have k2:w1.cell? ⟨w.heap.size + 1,0,none⟩ = some (.int .i64 0):=zI b2 0
  have z1:w1.frozen? ⟨w.heap.size,0,none⟩ = false:=zJ b1 0
  have z2:w1.frozen? ⟨w.heap.size + 1,0,none⟩ = false:=zJ b2 0
  have HB1:=zA (zH HB2.out hb)
  have HS1:=zA (show w.heap.size + 1 + 1 ≤ w1.heap.size by rw [← HS2.out];exact hb.size)
  have B1:=zA b1
  have B2:=zA b2
  clear hb b1 b2 hW2
  go_wp2_with fail
  go_loop [24] (fun t24=>∃ j:Nat,t24 = .int .i64 (j:Int)∧Aside0 (j ≤ l1.length∧(l1.take j).all Pure.inR = true)) (fun t24=>l1.length - (intOf t24).toNat)
  case atStart=>exact ⟨0,rfl,⟨Nat.zero_le _,rfl⟩⟩
  case round =>
   obtain ⟨j,rfl,HJ⟩:=hrel
   by_cases hlt:j < l1.length
   ·have hq:decide ((j:Int) < (l1.length:Int)) = true:=zQ (by omega)
    have hq2:decide (j < l1.length) = true:=zQ hlt
    obtain ⟨ad,ea,y⟩:=Kd.at_int (zT HR1.out HB1.out) (j:Int) (by omega) (by omega)
    subst ea
    obtain ⟨x,hx⟩:∃ x,x = rd l1 (j:Int):=⟨_,rfl⟩
    rw [← hx,Int.toNat_natCast] at y
    have hx2:x = l1[j]:=by rw [hx];exact Base.rd_get _ _ hlt
    have HXX:=zA hx2
    clear hx hx2
    have e1:IntKind.i64.wrap ((j:Int) + 1) = (j:Int) + 1:=by rw [IntKind.wrap_i64];omega
    have hbad:(x < -1000000 ∨ x > 1000000) → l1.all Pure.inR = false:=by
     intro hb
     rw [List.all_eq_false]
     exact ⟨l1[j],List.getElem_mem hlt,by rw [← HXX.out];unfold Pure.inR;simp;omega⟩
    have HBad:=zA hbad
    clear hbad
    by_cases g1:x < -1000000
    ·have q1:decide (x < -1000000) = true:=zQ g1
     have hr:=HH.out
     rw [HBad.out (.inl g1)] at hr
     obtain ⟨rfl,rfl⟩:=Prod.mk.inj hr
     clear hr
     go_wp2
     simp [bodyPostD,Leaves,settle,results,Tryd.results54,go_sem,k1,k2]
     exact ((HB1.out.setCell (Nat.le_refl _) _).setCell (by simp) _)
    have q1:decide (x < -1000000) = false:=zR g1
    by_cases g2:x > 1000000
    ·have q2:decide (x > 1000000) = true:=zQ g2
     have hr:=HH.out
     rw [HBad.out (.inr g2)] at hr
     obtain ⟨rfl,rfl⟩:=Prod.mk.inj hr
     clear hr
     go_wp2
     simp [bodyPostD,Leaves,settle,results,Tryd.results54,go_sem,k1,k2]
     exact ((HB1.out.setCell (Nat.le_refl _) _).setCell (by simp) _)
    have q2:decide (x > 1000000) = false:=zR g2
    go_wp2
    go_round
    case rel =>
     refine ⟨j + 1,by go_num,⟨by omega,?_⟩⟩
     rw [List.take_succ_eq_append_getElem hlt,List.all_append,HJ.out.2,← HXX.out]
     simp [Pure.inR]
     omega
    case measure=>simp [intOf];omega
   ·have hq:decide ((j:Int) < (l1.length:Int)) = false:=zR (by omega)
    have hj:j = l1.length:=by have:=HJ.out.1;omega
    have hall:=HJ.out.2
    rw [hj,List.take_of_length_le (Nat.le_refl _)] at hall
    have hr:=HH.out
    rw [hall,if_pos rfl] at hr
    have HH2:=zA hr
    clear hr hall hj HH HJ
    go_wp2_with fail
    obtain ⟨gm,hgm⟩:∃ gm,gm = w1.heap.size:=⟨_,rfl⟩
    obtain ⟨wm,hwm⟩:∃ wm,wm = w1.alloc (Obj.cells #[Value.slice none 0 0,Value.slice A1 l1.length c1] 115):=⟨_,rfl⟩
    have hBm:Below w1.heap.size w1 wm:=by rw [hwm];exact zD (Below.refl _ _) _
    have hM0:MachOK wm gm (.slice none 0 0) [] A1 c1 l1:=by
     refine ⟨by rw [hwm,hgm];exact heap_new _ _,Kd.R_nil _ _ _ _ _,fun W hW=>?_,by simp⟩
     have hbw:Below w1.heap.size w1 W:=hBm.trans (by rw [← hgm];exact hW)
     exact zT (zT HR1.out HB1.out) hbw
    rw [← hwm,← hgm]
    have HBm:=zA (show Below gm w1 wm by rw [hgm];exact hBm)
    have HM0:=zA hM0
    have HGM:=zA (show w.heap.size + 1 + 1 ≤ gm by rw [hgm];exact HS1.out)
    clear hBm hM0 hwm hgm k1 k2 z1 z2 hq
    go_loopg [11] l0.length (fun kq v11 wr=>∃ (stk:List Int) (v:Value),v11 = .int .i64 ((kq:Int) - 1)∧Aside0 (kq ≤ l0.length)∧Aside0 (Pure.runS l1 (l0.drop kq) = .ok stk)∧Aside0 (MachOK wr gm v stk A1 c1 l1)∧Aside0 (Below gm wm wr))
    case atStart=>exact ⟨[],_,rfl,⟨Nat.le_refl _⟩,⟨by rw [List.drop_of_length_le (Nat.le_refl _)];rfl⟩,HM0,⟨Below.refl _ _⟩⟩
    case round =>
     obtain ⟨stk,v,rfl,HK,HRun,HM,HBr⟩:=hrel
     have hk:=HK.out
     have b1:=(HBr.out.block w.heap.size (qo HGM)).trans ((HBm.out.block w.heap.size (qo HGM)).trans B1.out)
     have b2:=(HBr.out.block (w.heap.size + 1) (qo HGM)).trans ((HBm.out.block (w.heap.size + 1) (qo HGM)).trans B2.out)
     have C1:=zA b1
     have C2:=zA b2
     clear b1 b2
     have ends:∀ (wz:World) (n cc:Int),Below gm wr wz → Below w.heap.size w wz:=fun wz n cc hz=>(HB1.out.trans ((HBm.out.trans (HBr.out.trans hz)).mono (qo HGM)))
     have HEnds:=zA ends
     clear ends
     cases gk with
     | zero =>
      have hq:decide (((0:Nat):Int) - 1 ≥ 0) = false:=by decide
      have hrun:=HRun.out
      rw [List.drop_zero] at hrun
      obtain ⟨hl1,hbd⟩:=Pure.run_len l1 l0 1 stk hfit hone hrun
      obtain ⟨x,rfl⟩:∃ x,stk = [x]:=by
       match stk,hl1 with
       | [x],_=>exact ⟨x,rfl⟩
      have hr:=HH2.out
      rw [hrun] at hr
      obtain ⟨rfl,rfl⟩:=Prod.mk.inj hr
      have HM1:=zA (show MachOK wr gm v ([] ++ [x]) A1 c1 l1 from HM.out)
      clear hr hrun hl1 hbd
      go_wp2_with fail
      refine (pop_calls gm v [] x A1 c1 l1 wr HM1.out).mono ?_
      rintro e wp ⟨rfl,vp,hmp,hbp,hgp⟩
      have b1:=(hbp.block w.heap.size (qo HGM)).trans C1.out
      have b2:=(hbp.block (w.heap.size + 1) (qo HGM)).trans C2.out
      have k1:wp.cell? ⟨w.heap.size,0,none⟩ = some (.int .i64 0):=zI b1 0
      have k2:wp.cell? ⟨w.heap.size + 1,0,none⟩ = some (.int .i64 0):=zI b2 0
      have z1:wp.frozen? ⟨w.heap.size,0,none⟩ = false:=zJ b1 0
      have z2:wp.frozen? ⟨w.heap.size + 1,0,none⟩ = false:=zJ b2 0
      have HBP:=zA (HEnds.out wp 0 0 hbp)
      clear b1 b2 hmp hbp hgp
      go_wp2
      refine leaves_cons (f:=82) (args:=#[.pointer (some ⟨w.heap.size,0,none⟩),.pointer (some ⟨w.heap.size + 1,0,none⟩)]) (by simp) (by simp [go_sem]) ?_
      refine (catchE_idle _ _ _).mono ?_
      rintro e u' w'' ⟨rfl,rfl,rfl⟩
      simp [Leaves,settle,results,Tryd.results54,go_sem,k1,k2]
      exact ((HBP.out.setCell (Nat.le_refl _) _).setCell (by simp) _)
     | succ i =>
      have hlt:i < l0.length:=by omega
      obtain ⟨d1,d2,d3,d4,d5,d6,d7⟩:=Pure.expr_at hone hfit l1 i hlt stk HRun.out
      have hR2:Kd.C k65 wr A0 l0.length l0:=zT HR.out (HEnds.out wr 0 0 (Below.refl _ _))
      obtain ⟨ad,e1,y0,y1⟩:=at_T65 hR2 i (by omega) (by omega)
      subst e1
      obtain ⟨o,ho⟩:∃ o,o = l0[i]:=⟨_,rfl⟩
      have hg:rd_T65 l0 i = o:=by rw [ho];exact Base.getD_get _ _ _ hlt
      rw [hg,Int.toNat_natCast] at y0 y1
      rw [← ho] at d1 d2 d3 d4 d5
      have hdo:=do_any gm v stk A1 c1 l1 o d1 d2 d3 d4 d5 (by omega) d6 (by omega) wr HM.out
      have hrs:Pure.runS l1 (l0.drop i) = Pure.stepS l1 o stk:=by
       rw [List.drop_eq_getElem_cons hlt,Pure.runS,HRun.out,← ho]
      have e2:((i + 1:Nat):Int) - 1 = (i:Int):=by omega
      have e3:IntKind.i64.wrap ((i:Int) - 1) = (i:Int) - 1:=by rw [IntKind.wrap_i64];omega
      rw [e2]
      have hq:decide ((i:Int) ≥ 0) = true:=zQ (by omega)
      have hidx:decide ((i:Int) < (l0.length:Int)) = true:=zQ (by omega)
      have HDo:=zA hdo
      have HRs:=zA hrs
      clear hg ho hR2 hdo hrs e2 d1 d2 d3 d4 d5 d6 d7
      go_wp2_with fail
      refine HDo.out.mono ?_
      rintro e wd ⟨hbd,hm⟩
      cases hst:Pure.stepS l1 o stk with
      | error cc =>
       rw [hst] at hm
       obtain rfl:=hm
       have hr:=HH2.out
       rw [runS_err l1 l0 i cc (HRs.out.trans hst)] at hr
       obtain ⟨rfl,rfl⟩:=Prod.mk.inj hr
       have b1:=(hbd.block w.heap.size (qo HGM)).trans C1.out
       have b2:=(hbd.block (w.heap.size + 1) (qo HGM)).trans C2.out
       have k1:wd.cell? ⟨w.heap.size,0,none⟩ = some (.int .i64 0):=zI b1 0
       have k2:wd.cell? ⟨w.heap.size + 1,0,none⟩ = some (.int .i64 0):=zI b2 0
       have z1:wd.frozen? ⟨w.heap.size,0,none⟩ = false:=zJ b1 0
       have z2:wd.frozen? ⟨w.heap.size + 1,0,none⟩ = false:=zJ b2 0
       have HBD:=zA (HEnds.out wd 0 0 hbd)
       clear b1 b2 hbd hr hst
       refine leaves_cons (f:=82) (args:=#[.pointer (some ⟨w.heap.size,0,none⟩),.pointer (some ⟨w.heap.size + 1,0,none⟩)]) (by simp) (by simp [go_sem]) ?_
       refine (catchE_panicking w.heap.size (w.heap.size + 1) (by omega) _ [] wd k1 z1 k2 z2).mono ?_
       rintro e u' w'' ⟨rfl,rfl,hsame⟩
       have j1:w''.cell? ⟨w.heap.size,0,none⟩ = some (.int .i64 0):=by rw [hsame.cell];simp [go_sem,k1]
       have j2:w''.cell? ⟨w.heap.size + 1,0,none⟩ = some (.int .i64 cc):=by rw [hsame.cell];simp [go_sem,k2]
       simp [Leaves,settle,results,Tryd.results54,go_sem,j1,j2]
       exact Same.below ((HBD.out.setCell (Nat.le_refl _) _).setCell (by simp) _) hsame
      | ok s' =>
       rw [hst] at hm
       obtain ⟨rfl,v',hM'⟩:=hm
       have HM':=zA hM'
       have HRs':=zA (HRs.out.trans hst)
       have HBD:=zA (HBr.out.trans hbd)
       clear hM' hbd hst y0 y1
       go_wp2
       go_roundg i
       case measure=>omega
       case rel=>exact ⟨s',v',rfl,⟨by omega⟩,HRs',HM',HBD⟩
 ·have herb:(er != 0) = true:=by rw [bne_iff_ne];exact her
  rw [if_neg her] at h
  obtain ⟨rfl,rfl⟩:=Prod.mk.inj h
  go_enter_defers Tryd.func54,Tryd.ntmps54
  go_wp2_with fail
  rw [← hW2]
  refine HCk.out.mono ?_
  rintro e w1 ⟨rfl,hb⟩
  have b1:=(hb.block _ (blk_lt HA1.out)).trans HA1.out
  have b2:=(hb.block _ (blk_lt HA2.out)).trans HA2.out
  have k1:w1.cell? ⟨w.heap.size,0,none⟩ = some (.int .i64 0):=zI b1 0
  have k2:w1.cell? ⟨w.heap.size + 1,0,none⟩ = some (.int .i64 0):=zI b2 0
  have z1:w1.frozen? ⟨w.heap.size,0,none⟩ = false:=zJ b1 0
  have z2:w1.frozen? ⟨w.heap.size + 1,0,none⟩ = false:=zJ b2 0
  have HB1:=zA (zH HB2.out hb)
  clear hb b1 b2
  go_wp2
  simp [bodyPostD,Leaves,settle,results,Tryd.results54,go_sem,k1,k2]
  exact ((HB1.out.setCell (Nat.le_refl _) _).setCell (by simp) _)
end
end Go.Proofs.YthffpjkkmkjplaaDoor.S
namespace Go.Proofs.YthffpjkkmkjplaaDoor.S
open Go.Proofs.YthffpjkkmkjplaaDoor.Al
open Option renaming bind_eq_some_iff → zb
open Go.Proofs.YthffpjkkmkjplaaDoorW.PrintWords renaming below_set → zF, below_step → zH, blk_frozen → zJ, gate_callee → zU, gate_dst → zV
open Go.Proofs.YthffpjkkmkjplaaDoor.Sq
open Go.RowKit Go.Proofs.YthffpjkkmkjplaaDoorW.PrintWords Go.Proofs.YthffpjkkmkjplaaDoorW.PrintLast Go.Proofs.YthffpjkkmkjplaaDoorW.PrintMore
attribute [local go_sem] max2_int min2_int max_two min_two max_three min_three max_four min_four
set_option linter.unusedVariables false
set_option linter.unusedSimpArgs false
def step_Letter.l0:Nat → List Int → List Bool → List (List (S65)) → Int → Int → Option (List Bool × Int)
 | 0,_,_,_,_,_=>none
 | k + 1,x9,x11,x34,x35,x36=>if x36 < x35 then (if 0 ≤ x36 then (if x36 < (x34.length:Int) then ((expr_Eval.f (rd_L4 x34 x36) x9).bind fun bt190=>(if bt190.2 = 0 then (if x36 < (x11.length:Int) then (step_Letter.l0 k x9 (x11.set (x36:Int).toNat (bt190.1 == 1)) x34 x35 (wrap64 (x36 + 1))) else (none)) else (if x36 < (x11.length:Int) then (step_Letter.l0 k x9 (x11.set (x36:Int).toNat false) x34 x35 (wrap64 (x36 + 1))) else (none)))) else (none)) else (none)) else (some (x11,0))
def step_Letter.f (k:Nat) (l0_0:List (S86)) (l0_1:List (S93)) (l1:List (List (S65))) (a2:Int):Option (List Bool × Int):=(model_Props.f k l0_0 l0_1 l1).bind fun t181=>(if t181 = 0 then ((model_Values.f k l0_0 l0_1 a2).bind fun bt182=>(if bt182.2 = 0 then (if 0 ≤ (l1.length:Int) then (if ((l1.length:Int):Int).toNat ≤ 281474976710656 then (step_Letter.l0 k bt182.1 (List.replicate ((l1.length:Int):Int).toNat false) l1 (l1.length:Int) 0) else (none)) else (none)) else (some (([]:List Bool),bt182.2)))) else (some (([]:List Bool),t181)))
theorem step_Letter.mono_l:∀ k,(∀ y0 y1 y2 y3 y4,LeO (step_Letter.l0 k y0 y1 y2 y3 y4) (step_Letter.l0 (k + 1) y0 y1 y2 y3 y4))
 | 0=>fun _ _ _ _ _ r h=>by simp [step_Letter.l0] at h
 | k + 1=>by
  have ih0:=step_Letter.mono_l k
  ·intro y0 y1 y2 y3 y4
   unfold step_Letter.l0
   exact qM (And.intro @model_Props.mono @model_Values.mono)
theorem step_Letter.mono:∀ a0 a1 a2 a3 k,LeO (step_Letter.f k a0 a1 a2 a3) (step_Letter.f (k + 1) a0 a1 a2 a3):=by
 intro a0 a1 a2 a3 k
 have ih0:=step_Letter.mono_l k
 unfold step_Letter.f
 exact qM (And.intro @model_Props.mono @model_Values.mono)
set_option maxHeartbeats 8000000 in
set_option maxRecDepth 100000 in
theorem step_Letter.calls (k:Nat) (A0_0:Option Addr) (c0_0:Nat) (l0_0:List (S86)) (A0_1:Option Addr) (c0_1:Nat) (l0_1:List (S93)) (A1:Option Addr) (c1:Nat) (l1:List (List (S65))) (a2:Int) (r1:List Bool) (r2:Int) (w:World) (hr0_0:Kd.C k86 w A0_0 l0_0.length l0_0) (hc0_0:l0_0.length ≤ c0_0) (hr0_1:Kd.C k93 w A0_1 l0_1.length l0_1) (hc0_1:l0_1.length ≤ c0_1) (hr1:Kd.C (Kd.slice 65 k65) w A1 l1.length l1) (hc1:l1.length ≤ c1) (hL:LaidG w) (h:step_Letter.f k l0_0 l0_1 l1 a2 = some (r1,r2)) :
  Calls Tryd.prog 30 #[.agg #[.slice A0_0 l0_0.length c0_0,.slice A0_1 l0_1.length c0_1],.slice A1 l1.length c1,.int .i64 a2] w fun e w'=>∃ v0_:Value,e = .returned (.tuple #[v0_,.int .i64 r2])∧Kd.R Kd.bool 4 w' w.heap.size (fun _=>True) v0_ r1∧Below w.heap.size w w':=by
 have HLd:=zA hL
 clear hL
 have hu44:=Tryd.underlying44
 have HR0_0:=zA hr0_0
 have HC0_0:=zA hc0_0
 clear hr0_0 hc0_0
 have HR0_1:=zA hr0_1
 have HC0_1:=zA hc0_1
 clear hr0_1 hc0_1
 have HR1:=zA hr1
 have HC1:=zA hc1
 clear hr1 hc1
 have HB:=zA (Below.refl w.heap.size w)
 have H:((model_Props.f k l0_0 l0_1 l1).bind fun t181=>(if t181 = 0 then ((model_Values.f k l0_0 l0_1 a2).bind fun bt182=>(if bt182.2 = 0 then (if 0 ≤ (l1.length:Int) then (if ((l1.length:Int):Int).toNat ≤ 281474976710656 then (step_Letter.l0 k bt182.1 (List.replicate ((l1.length:Int):Int).toNat false) l1 (l1.length:Int) 0) else (none)) else (none)) else (some (([]:List Bool),bt182.2)))) else (some (([]:List Bool),t181)))) = some (r1,r2):=h
 clear h
 replace H:=zb.mp H
 obtain ⟨t181,A40,H⟩:=H
 replace H:(if t181 = 0 then ((model_Values.f k l0_0 l0_1 a2).bind fun bt182=>(if bt182.2 = 0 then (if 0 ≤ (l1.length:Int) then (if ((l1.length:Int):Int).toNat ≤ 281474976710656 then (step_Letter.l0 k bt182.1 (List.replicate ((l1.length:Int):Int).toNat false) l1 (l1.length:Int) 0) else (none)) else (none)) else (some (([]:List Bool),bt182.2)))) else (some (([]:List Bool),t181))) = some (r1,r2):=H
 have A4:=zA A40
 clear A40
 by_cases c5:t181 = 0
 ·rw [if_pos c5] at H
  have c5b0:(t181 == 0) = true:=beq_iff_eq.mpr c5
  have c5b1:(t181 != 0) = false:=bne_eq_false_iff_eq.mpr c5
  clear c5
  replace H:=zb.mp H
  obtain ⟨⟨t182,t185⟩,A60,H⟩:=H
  replace H:(if t185 = 0 then (if 0 ≤ (l1.length:Int) then (if ((l1.length:Int):Int).toNat ≤ 281474976710656 then (step_Letter.l0 k t182 (List.replicate ((l1.length:Int):Int).toNat false) l1 (l1.length:Int) 0) else (none)) else (none)) else (some (([]:List Bool),t185))) = some (r1,r2):=H
  have A6:=zA A60
  clear A60
  by_cases c7:t185 = 0
  ·rw [if_pos c7] at H
   have c7b0:(t185 == 0) = true:=beq_iff_eq.mpr c7
   have c7b1:(t185 != 0) = false:=bne_eq_false_iff_eq.mpr c7
   clear c7
   by_cases c8:0 ≤ (l1.length:Int)
   ·rw [if_pos c8] at H
    have c8b0:=eq_true c8
    have c8b1:decide (0 ≤ (l1.length:Int)) = true:=zQ c8
    clear c8
    by_cases c9:((l1.length:Int):Int).toNat ≤ 281474976710656
    ·rw [if_pos c9] at H
     have c9b0:=eq_true c9
     have c9b1:decide (((l1.length:Int):Int).toNat ≤ 281474976710656) = true:=zQ c9
     clear c9
     obtain ⟨y186,hy186⟩:∃ y_:List Bool,y_ = (List.replicate ((l1.length:Int):Int).toNat false):=⟨_,rfl⟩
     replace H:(step_Letter.l0 k t182 y186 l1 (l1.length:Int) 0) = some (r1,r2):=by first|(rw [hy186];with_reducible exact H)|(have H2_:=(Option.bind_some _ _).symm.trans H;rw [hy186];with_reducible exact H2_)|(have H2_:=(Option.bind_some _ _).symm.trans H;with_reducible exact H2_)|with_reducible exact H|(rw [hy186];exact H)|exact H
     have Ny186:=zA hy186
     clear hy186
     have H':=zA H
     clear H
     go_enter Tryd.func30,Tryd.ntmps30
     go_wp2_with (first|((with_reducible refine zV (N:=3) rfl ?_);refine bq 3 (cs:=#[.slice A0_0 l0_0.length c0_0,.slice A0_1 l0_1.length c0_1]) (t:=44) ?_;intro gb180 hg w10 hbox hb;have BK180:=zA (hbox);have GW180:=zA (qg hg);have GE180:=zA (qg hg);replace HB:=zA (zH qb hb);clear hb hbox hg;have hcz11_0:=qx BK180 0;have hcz11_1:=qx BK180 1;have hfz11_0:=zJ BK180.out 0;have hfz11_1:=zJ BK180.out 1)|((with_reducible refine zU (f:=51) rfl ?_);refine gL (some 18) Tryd.func51 #[.agg #[.slice A0_0 l0_0.length c0_0,.slice A0_1 l0_1.length c0_1],.slice A1 l1.length c1] ?_;(with_reducible refine (model_Props.calls k _ _ l0_0 _ _ l0_1 _ _ l1 t181 _ (qc HR0_0) HC0_0.out (qc HR0_1) HC0_1.out (qc HR1) HC1.out qD A4.out).mono ?_);rintro e w12 ⟨rfl,hb⟩;refine ⟨_,rfl,?_⟩;replace BK180:=qK BK180 hb;replace HB:=zA (zH qb hb);clear hb;have hcz13_0:=qx BK180 0;have hcz13_1:=qx BK180 1;have hfz13_0:=zJ BK180.out 0;have hfz13_1:=zJ BK180.out 1)|((with_reducible refine zU (f:=53) rfl ?_);refine gL (some 25) Tryd.func53 #[.agg #[.slice A0_0 l0_0.length c0_0,.slice A0_1 l0_1.length c0_1],.int .i64 a2] ?_;(with_reducible refine (model_Values.calls k _ _ l0_0 _ _ l0_1 a2 t182 t185 _ (qc HR0_0) HC0_0.out (qc HR0_1) HC0_1.out qD A6.out).mono ?_);rintro e w14 ⟨v183,rfl,ho0,hb⟩;refine ⟨_,rfl,?_⟩;have HO184:=zA (Kd.R_lower ho0 qs);replace BK180:=qK BK180 hb;replace HB:=zA (zH qb hb);clear ho0 hb)|((with_reducible refine zV (N:=33) rfl ?_);refine Kd.R_make Kd.bool _ 4 rfl (N:=33) rfl 27 _ _ rfl (l1.length:Int) rfl rfl Tryd.underlying27 (.bool false) 1 info4 rfl (by decide) (by omega) false (ok:=fun _=>True) (okp:=fun _=>True) rfl (fun _ hk=>hk) trivial (qd) (Nat.le_trans (Nat.mul_le_mul_right _ (qd:(l1.length:Int).toNat ≤ 281474976710656)) (by omega)) (Below.refl _ _) (Nat.le_refl _) ?_;intro v187 w15 ho16 hb hg_ hnew_;clear hg_ hnew_;(first|rw [← Ny186.out] at ho16|(simp only [Int.reduceToNat] at ho16;rw [← Ny186.out] at ho16));replace HO184:=zA (Kd.R_below (qR HO184) hb);have HO188:=zA (Kd.R_lower ho16 qs);replace BK180:=qK BK180 hb;replace HB:=zA (zH qb hb);clear hb ho16))
     go_loopg [36] k (fun kq v36 w'=>∃ (x11_1:List Bool) (x36_1:Int),v36 = .int .i64 x36_1∧Aside0 (step_Letter.l0 kq t182 x11_1 l1 (l1.length:Int) x36_1 = some (r1,r2))∧Aside0 (kq ≤ k)∧Aside0 (Kd.R (Kd.int .i64) 3 w' w.heap.size (fun _=>True) v183 t182)∧Aside0 (Kd.R Kd.bool 4 w' w.heap.size (fun _=>True) v187 x11_1)∧Aside0 (w'.heap[gb180]? = some (.cells #[(.slice A0_0 l0_0.length c0_0),(.slice A0_1 l0_1.length c0_1)] 44 (0,0)))∧Aside0 (Below w.heap.size w w'))
     case atStart=>exact ⟨(y186),(0),qr,H',⟨Nat.le_refl _⟩,⟨qR HO184⟩,⟨qR HO188⟩,⟨qk BK180⟩,⟨qb⟩⟩
     case round =>
      clear H'
      try clear c1
      try clear p2
      try clear c3
      try clear c5
      try clear c5b0
      try clear c5b1
      try clear c7
      try clear c7b0
      try clear c7b1
      try clear c8
      try clear c8b0
      try clear c8b1
      try clear c9
      try clear c9b0
      try clear c9b1
      try clear hcz11_0
      try clear hcz11_1
      try clear hcz13_0
      try clear hcz13_1
      try clear hfz11_0
      try clear hfz11_1
      try clear hfz13_0
      try clear hfz13_1
      obtain ⟨x11_1,x36_1,rfl,HA,HK1,HO_9,HO_11,BK180,HB⟩:=hrel
      cases gk with
      | zero=>exact absurd HA.out (by simp [step_Letter.l0])
      | succ k1 =>
       have H:=HA.out
       clear HA
       simp only [step_Letter.l0] at H
       rcases qj H with ⟨c17b0,H⟩|⟨c17b0,H⟩
       ·rcases qj H with ⟨c18b0,H⟩|⟨c18,H⟩
        ·rcases qj H with ⟨c19b0,H⟩|⟨c19,H⟩
         ·replace H:=zb.mp H
          obtain ⟨⟨t190,t191⟩,A200,H⟩:=H
          replace H:(if t191 = 0 then (if x36_1 < (x11_1.length:Int) then (step_Letter.l0 k1 t182 (x11_1.set (x36_1:Int).toNat (t190 == 1)) l1 (l1.length:Int) (wrap64 (x36_1 + 1))) else (none)) else (if x36_1 < (x11_1.length:Int) then (step_Letter.l0 k1 t182 (x11_1.set (x36_1:Int).toNat false) l1 (l1.length:Int) (wrap64 (x36_1 + 1))) else (none))) = some (r1,r2):=H
          have A20:=zA A200
          clear A200
          by_cases c21:t191 = 0
          ·rw [if_pos c21] at H
           have c21b0:(t191 == 0) = true:=beq_iff_eq.mpr c21
           have c21b1:(t191 != 0) = false:=bne_eq_false_iff_eq.mpr c21
           clear c21
           rcases qj H with ⟨c22b0,H⟩|⟨c22,H⟩
           ·obtain ⟨y192,hy192⟩:∃ y_:List Bool,y_ = (x11_1.set (x36_1:Int).toNat (t190 == 1)):=⟨_,rfl⟩
            replace H:(step_Letter.l0 k1 t182 y192 l1 (l1.length:Int) (wrap64 (x36_1 + 1))) = some (r1,r2):=by first|(rw [hy192];with_reducible exact H)|(have H2_:=(Option.bind_some _ _).symm.trans H;rw [hy192];with_reducible exact H2_)|(have H2_:=(Option.bind_some _ _).symm.trans H;with_reducible exact H2_)|with_reducible exact H|(rw [hy192];exact H)|exact H
            have Ny192:=zA hy192
            clear hy192
            have H':=zA H
            clear H
            have p189:0 ≤ (x36_1:Int):=qd
            have q189:x36_1 < (l1.length:Int):=qd
            obtain ⟨ad189,A189_0,c189_0,e189,hx189_0,hl189_0,hi189_0⟩:=at_L4 HR1.out x36_1 p189 q189
            cases e189
            replace hx189_0:=qy HB hx189_0
            have HR189_0:=zA hi189_0
            have HC189_0:=zA hl189_0
            clear hi189_0 hl189_0
            replace p189:=eq_true p189
            replace q189:=eq_true q189
            obtain ⟨Ao24,co24,eo24⟩:=Kd.R_slice HO_9.out
            subst eo24
            go_wp2_with (first|((with_reducible refine zU (f:=54) rfl ?_);refine gL (some 44) Tryd.func54 #[.slice A189_0 (rd_L4 l1 x36_1).length c189_0,.slice Ao24 t182.length co24] ?_;(with_reducible refine (expr_Eval.calls _ _ (rd_L4 l1 x36_1) _ _ t182 t190 t191 _ (qc HR189_0) HC189_0.out (qu (Kd.R_reads' HO_9.out).2.2) ((Kd.R_reads' HO_9.out).2.1) qD A20.out).mono ?_);rintro e w25 ⟨rfl,hb⟩;refine ⟨_,rfl,?_⟩;replace HO_9:=zA (Kd.R_below (qR HO_9) hb);replace HO_11:=zA (Kd.R_below (qR HO_11) hb);replace BK180:=qK BK180 hb;replace HB:=zA (zH qb hb);clear hb;have p23:0 ≤ (x36_1:Int):=qd;have q23:(x36_1:Int) < ((x11_1.length:Int):Int):=qd;obtain ⟨go23,co23,eo23,gb23,gl23,cl23,HG23⟩:=Kd.R_form HO_11.out (by omega);(first|cases eo23|(injection eo23 with ea_ en_ ec_;(first|subst ea_|(injection ea_ with ea_;subst ea_));subst ec_;clear en_));have GB23:=zA gb23;have GG23:=zA HG23;clear gb23 gl23 HG23;obtain ⟨hx23_0,hf23_0⟩:=Kd.R_celln false HO_11.out (x36_1:Int) p23 q23;replace p23:=eq_true p23;replace q23:=eq_true q23;obtain ⟨hy26_,hz26_⟩:=Kd.R_celln false HO_11.out (x36_1:Int) (qd) (qd);have HP26:=Kd.R_putg HO_11.out (x36_1:Int) (t190 == 1))|((with_reducible refine gate_store (t:=4) (p:=55) rfl ?_);refine store_event (t:=4) (p:=55) (v:=?vo_w27) (w1:=(w25.setCell ⟨go23,(x36_1:Int).toNat,none⟩ (.bool (t190 == 1)))) ?hg ?ho ?hn ?hr ?_;(case ho=>rfl);(case hg=>rfl);(case hn=>rfl);(case hr=>first|(go_simp;done)|(go_simp;rfl));intro w27 hw;have hg:w25.grownBy w27 (some go23):=(by rw [hw];exact HP26.2);have hp_:Kd.R Kd.bool 4 w27 w.heap.size (fun _=>True) (.slice (some ⟨go23,0,none⟩) x11_1.length co23) y192:=(by rw [hw,Ny192.out];exact HP26.1);clear HP26;replace HO_9:=zA (Kd.R_over' (v:=(.slice (some ⟨go23,0,none⟩) x11_1.length co23)) (qR HO_9) (Kd.R_typed HO_11.out) (by decide) hg);replace BK180:=zA (blk_grown (g:=gb180) (o:=.cells #[.slice A0_0 l0_0.length c0_0,.slice A0_1 l0_1.length c0_1] 44 (0,0)) (qk BK180) hg (Kd.R_ne HO_11.out BK180.out (by decide)));replace HO_11:=zA (hp_);replace HB:=zA ((by rw [hw];exact zF (HB.out) GB23.out:Below w.heap.size w w27));clear hg hw hp_))
            go_roundg k1
            case measure=>have:=HK1.out;omega
            case rel=>exact ⟨(y192),(wrap64 (x36_1 + 1)),qr,H',⟨qo HK1⟩,⟨qR HO_9⟩,⟨qR HO_11⟩,⟨qk BK180⟩,⟨qb⟩⟩
           ·exact absurd H (by simp)
          ·rw [if_neg c21] at H
           have c21b0:(t191 == 0) = false:=beq_eq_false_iff_ne.mpr c21
           have c21b1:(t191 != 0) = true:=bne_iff_ne.mpr c21
           rcases qj H with ⟨c28b0,H⟩|⟨c28,H⟩
           ·obtain ⟨y193,hy193⟩:∃ y_:List Bool,y_ = (x11_1.set (x36_1:Int).toNat false):=⟨_,rfl⟩
            replace H:(step_Letter.l0 k1 t182 y193 l1 (l1.length:Int) (wrap64 (x36_1 + 1))) = some (r1,r2):=by first|(rw [hy193];with_reducible exact H)|(have H2_:=(Option.bind_some _ _).symm.trans H;rw [hy193];with_reducible exact H2_)|(have H2_:=(Option.bind_some _ _).symm.trans H;with_reducible exact H2_)|with_reducible exact H|(rw [hy193];exact H)|exact H
            have Ny193:=zA hy193
            clear hy193
            have H':=zA H
            clear H
            have p189:0 ≤ (x36_1:Int):=qd
            have q189:x36_1 < (l1.length:Int):=qd
            obtain ⟨ad189,A189_0,c189_0,e189,hx189_0,hl189_0,hi189_0⟩:=at_L4 HR1.out x36_1 p189 q189
            cases e189
            replace hx189_0:=qy HB hx189_0
            have HR189_0:=zA hi189_0
            have HC189_0:=zA hl189_0
            clear hi189_0 hl189_0
            replace p189:=eq_true p189
            replace q189:=eq_true q189
            obtain ⟨Ao30,co30,eo30⟩:=Kd.R_slice HO_9.out
            subst eo30
            go_wp2_with (first|((with_reducible refine zU (f:=54) rfl ?_);refine gL (some 44) Tryd.func54 #[.slice A189_0 (rd_L4 l1 x36_1).length c189_0,.slice Ao30 t182.length co30] ?_;(with_reducible refine (expr_Eval.calls _ _ (rd_L4 l1 x36_1) _ _ t182 t190 t191 _ (qc HR189_0) HC189_0.out (qu (Kd.R_reads' HO_9.out).2.2) ((Kd.R_reads' HO_9.out).2.1) qD A20.out).mono ?_);rintro e w31 ⟨rfl,hb⟩;refine ⟨_,rfl,?_⟩;replace HO_9:=zA (Kd.R_below (qR HO_9) hb);replace HO_11:=zA (Kd.R_below (qR HO_11) hb);replace BK180:=qK BK180 hb;replace HB:=zA (zH qb hb);clear hb;have p29:0 ≤ (x36_1:Int):=qd;have q29:(x36_1:Int) < ((x11_1.length:Int):Int):=qd;obtain ⟨go29,co29,eo29,gb29,gl29,cl29,HG29⟩:=Kd.R_form HO_11.out (by omega);(first|cases eo29|(injection eo29 with ea_ en_ ec_;(first|subst ea_|(injection ea_ with ea_;subst ea_));subst ec_;clear en_));have GB29:=zA gb29;have GG29:=zA HG29;clear gb29 gl29 HG29;obtain ⟨hx29_0,hf29_0⟩:=Kd.R_celln false HO_11.out (x36_1:Int) p29 q29;replace p29:=eq_true p29;replace q29:=eq_true q29;obtain ⟨hy32_,hz32_⟩:=Kd.R_celln false HO_11.out (x36_1:Int) (qd) (qd);have HP32:=Kd.R_putg HO_11.out (x36_1:Int) false)|((with_reducible refine gate_store (t:=4) (p:=55) rfl ?_);refine store_event (t:=4) (p:=55) (v:=?vo_w33) (w1:=(w31.setCell ⟨go29,(x36_1:Int).toNat,none⟩ (.bool false))) ?hg ?ho ?hn ?hr ?_;(case ho=>rfl);(case hg=>rfl);(case hn=>rfl);(case hr=>first|(go_simp;done)|(go_simp;rfl));intro w33 hw;have hg:w31.grownBy w33 (some go29):=(by rw [hw];exact HP32.2);have hp_:Kd.R Kd.bool 4 w33 w.heap.size (fun _=>True) (.slice (some ⟨go29,0,none⟩) x11_1.length co29) y193:=(by rw [hw,Ny193.out];exact HP32.1);clear HP32;replace HO_9:=zA (Kd.R_over' (v:=(.slice (some ⟨go29,0,none⟩) x11_1.length co29)) (qR HO_9) (Kd.R_typed HO_11.out) (by decide) hg);replace BK180:=zA (blk_grown (g:=gb180) (o:=.cells #[.slice A0_0 l0_0.length c0_0,.slice A0_1 l0_1.length c0_1] 44 (0,0)) (qk BK180) hg (Kd.R_ne HO_11.out BK180.out (by decide)));replace HO_11:=zA (hp_);replace HB:=zA ((by rw [hw];exact zF (HB.out) GB29.out:Below w.heap.size w w33));clear hg hw hp_))
            go_roundg k1
            case measure=>have:=HK1.out;omega
            case rel=>exact ⟨(y193),(wrap64 (x36_1 + 1)),qr,H',⟨qo HK1⟩,⟨qR HO_9⟩,⟨qR HO_11⟩,⟨qk BK180⟩,⟨qb⟩⟩
           ·exact absurd H (by simp)
         ·exact absurd H (by simp)
        ·exact absurd H (by simp)
       ·simp only [Option.some.injEq,Prod.mk.injEq] at H
        obtain ⟨rfl,rfl⟩:=H
        go_wp2
        go_ret2
        exact ⟨_,qe,qR HO_11,qb⟩
    ·rw [if_neg c9] at H
     exact absurd H (by simp)
   ·rw [if_neg c8] at H
    exact absurd H (by simp)
  ·rw [if_neg c7] at H
   have c7b0:(t185 == 0) = false:=beq_eq_false_iff_ne.mpr c7
   have c7b1:(t185 != 0) = true:=bne_iff_ne.mpr c7
   simp only [Option.some.injEq,Prod.mk.injEq] at H
   obtain ⟨rfl,rfl⟩:=H
   go_enter Tryd.func30,Tryd.ntmps30
   go_wp2_with (first|((with_reducible refine zV (N:=3) rfl ?_);refine bq 3 (cs:=#[.slice A0_0 l0_0.length c0_0,.slice A0_1 l0_1.length c0_1]) (t:=44) ?_;intro gb180 hg w34 hbox hb;have BK180:=zA (hbox);have GW180:=zA (qg hg);have GE180:=zA (qg hg);replace HB:=zA (zH qb hb);clear hb hbox hg;have hcz35_0:=qx BK180 0;have hcz35_1:=qx BK180 1;have hfz35_0:=zJ BK180.out 0;have hfz35_1:=zJ BK180.out 1)|((with_reducible refine zU (f:=51) rfl ?_);refine gL (some 18) Tryd.func51 #[.agg #[.slice A0_0 l0_0.length c0_0,.slice A0_1 l0_1.length c0_1],.slice A1 l1.length c1] ?_;(with_reducible refine (model_Props.calls k _ _ l0_0 _ _ l0_1 _ _ l1 t181 _ (qc HR0_0) HC0_0.out (qc HR0_1) HC0_1.out (qc HR1) HC1.out qD A4.out).mono ?_);rintro e w36 ⟨rfl,hb⟩;refine ⟨_,rfl,?_⟩;replace BK180:=qK BK180 hb;replace HB:=zA (zH qb hb);clear hb;have hcz37_0:=qx BK180 0;have hcz37_1:=qx BK180 1;have hfz37_0:=zJ BK180.out 0;have hfz37_1:=zJ BK180.out 1)|((with_reducible refine zU (f:=53) rfl ?_);refine gL (some 25) Tryd.func53 #[.agg #[.slice A0_0 l0_0.length c0_0,.slice A0_1 l0_1.length c0_1],.int .i64 a2] ?_;(with_reducible refine (model_Values.calls k _ _ l0_0 _ _ l0_1 a2 t182 t185 _ (qc HR0_0) HC0_0.out (qc HR0_1) HC0_1.out qD A6.out).mono ?_);rintro e w38 ⟨v183,rfl,ho0,hb⟩;refine ⟨_,rfl,?_⟩;have HO184:=zA (Kd.R_lower ho0 qs);replace BK180:=qK BK180 hb;replace HB:=zA (zH qb hb);clear ho0 hb))
   go_ret2
   exact ⟨_,qe,ql,qb⟩
 ·rw [if_neg c5] at H
  have c5b0:(t181 == 0) = false:=beq_eq_false_iff_ne.mpr c5
  have c5b1:(t181 != 0) = true:=bne_iff_ne.mpr c5
  simp only [Option.some.injEq,Prod.mk.injEq] at H
  obtain ⟨rfl,rfl⟩:=H
  go_enter Tryd.func30,Tryd.ntmps30
  go_wp2_with (first|((with_reducible refine zV (N:=3) rfl ?_);refine bq 3 (cs:=#[.slice A0_0 l0_0.length c0_0,.slice A0_1 l0_1.length c0_1]) (t:=44) ?_;intro gb180 hg w39 hbox hb;have BK180:=zA (hbox);have GW180:=zA (qg hg);have GE180:=zA (qg hg);replace HB:=zA (zH qb hb);clear hb hbox hg;have hcz40_0:=qx BK180 0;have hcz40_1:=qx BK180 1;have hfz40_0:=zJ BK180.out 0;have hfz40_1:=zJ BK180.out 1)|((with_reducible refine zU (f:=51) rfl ?_);refine gL (some 18) Tryd.func51 #[.agg #[.slice A0_0 l0_0.length c0_0,.slice A0_1 l0_1.length c0_1],.slice A1 l1.length c1] ?_;(with_reducible refine (model_Props.calls k _ _ l0_0 _ _ l0_1 _ _ l1 t181 _ (qc HR0_0) HC0_0.out (qc HR0_1) HC0_1.out (qc HR1) HC1.out qD A4.out).mono ?_);rintro e w41 ⟨rfl,hb⟩;refine ⟨_,rfl,?_⟩;replace BK180:=qK BK180 hb;replace HB:=zA (zH qb hb);clear hb))
  go_ret2
  exact ⟨_,qe,ql,qb⟩
end Go.Proofs.YthffpjkkmkjplaaDoor.S
namespace Go.Proofs.YthffpjkkmkjplaaDoor.S
open Go.Proofs.YthffpjkkmkjplaaDoor.Al
open Option renaming bind_eq_some_iff → zb
open Go.Proofs.YthffpjkkmkjplaaDoorW.PrintWords renaming below_step → zH, blk_frozen → zJ, blk_alloc → zK, blk_drewN → zL, blk_drew → zM, blk_put → zO, gate_callee → zU, gate_dst → zV
open Go.Proofs.YthffpjkkmkjplaaDoor.Sq
open Go.RowKit Go.Proofs.YthffpjkkmkjplaaDoorW.PrintWords Go.Proofs.YthffpjkkmkjplaaDoorW.PrintLast Go.Proofs.YthffpjkkmkjplaaDoorW.PrintMore
attribute [local go_sem] max2_int min2_int max_two min_two max_three min_three max_four min_four
set_option linter.unusedVariables false
set_option linter.unusedSimpArgs false
def logic_Ahead.l0:Nat → List Int → List (S65) → Int → Int → Option (List Int × Int)
 | 0,_,_,_,_=>none
 | k + 1,x7,x16,x17,x18=>if x18 < x17 then (if 0 ≤ x18 then (if x18 < (x16.length:Int) then ((logic_ahead.f ((rd_T65 x16 x18).f0)).bind fun t197=>(if t197 = true then (if x7.length < 17592186044416 then (logic_Ahead.l0 k (x7 ++ [x18]) x16 x17 (wrap64 (x18 + 1))) else (none)) else (logic_Ahead.l0 k x7 x16 x17 (wrap64 (x18 + 1))))) else (none)) else (none)) else (some (x7,0))
def logic_Ahead.f (k:Nat) (l0:List (S65)) (a1:Int):Option (List Int × Int):=(logic_Check.f k l0 a1).bind fun t194=>(if t194 = 0 then (logic_Ahead.l0 k ([]:List Int) l0 (l0.length:Int) 0) else (some (([]:List Int),t194)))
theorem logic_Ahead.mono_l:∀ k,(∀ y0 y1 y2 y3,LeO (logic_Ahead.l0 k y0 y1 y2 y3) (logic_Ahead.l0 (k + 1) y0 y1 y2 y3))
 | 0=>fun _ _ _ _ r h=>by simp [logic_Ahead.l0] at h
 | k + 1=>by
  have ih0:=logic_Ahead.mono_l k
  ·intro y0 y1 y2 y3
   unfold logic_Ahead.l0
   exact qM @logic_Check.mono
theorem logic_Ahead.mono:∀ a0 a1 k,LeO (logic_Ahead.f k a0 a1) (logic_Ahead.f (k + 1) a0 a1):=by
 intro a0 a1 k
 have ih0:=logic_Ahead.mono_l k
 unfold logic_Ahead.f
 exact qM @logic_Check.mono
set_option maxHeartbeats 8000000 in
set_option maxRecDepth 100000 in
theorem logic_Ahead.calls (k:Nat) (A0:Option Addr) (c0:Nat) (l0:List (S65)) (a1:Int) (r1:List Int) (r2:Int) (w:World) (hr0:Kd.C k65 w A0 l0.length l0) (hc0:l0.length ≤ c0) (hL:LaidG w) (h:logic_Ahead.f k l0 a1 = some (r1,r2)) :
  Calls Tryd.prog 26 #[.slice A0 l0.length c0,.int .i64 a1] w fun e w'=>∃ v0_:Value,e = .returned (.tuple #[v0_,.int .i64 r2])∧Kd.R (Kd.int .i64) 3 w' w.heap.size (fun _=>True) v0_ r1∧Below w.heap.size w w':=by
 have HLd:=zA hL
 clear hL
 have hu65:=Tryd.underlying65
 have HR0:=zA hr0
 have HC0:=zA hc0
 clear hr0 hc0
 have HB:=zA (Below.refl w.heap.size w)
 have H:((logic_Check.f k l0 a1).bind fun t194=>(if t194 = 0 then (logic_Ahead.l0 k ([]:List Int) l0 (l0.length:Int) 0) else (some (([]:List Int),t194)))) = some (r1,r2):=h
 clear h
 replace H:=zb.mp H
 obtain ⟨t194,A30,H⟩:=H
 replace H:(if t194 = 0 then (logic_Ahead.l0 k ([]:List Int) l0 (l0.length:Int) 0) else (some (([]:List Int),t194))) = some (r1,r2):=H
 have A3:=zA A30
 clear A30
 by_cases c4:t194 = 0
 ·rw [if_pos c4] at H
  have c4b0:(t194 == 0) = true:=beq_iff_eq.mpr c4
  have c4b1:(t194 != 0) = false:=bne_eq_false_iff_eq.mpr c4
  clear c4
  have H':=zA H
  clear H
  go_enter Tryd.func26,Tryd.ntmps26
  go_wp2_with (first|((with_reducible refine zU (f:=41) rfl ?_);refine gL (some 12) Tryd.func41 #[.slice A0 l0.length c0,.int .i64 a1] ?_;(with_reducible refine (logic_Check.calls k _ _ l0 a1 t194 _ (qu HR0.out) HC0.out qD A3.out).mono ?_);rintro e w5 ⟨rfl,hb⟩;refine ⟨_,rfl,?_⟩;replace HB:=zA (zH qb hb);clear hb))
  go_loopg [7,18] k (fun kq v7 v18 w'=>∃ (x7_1:List Int) (x18_1:Int),v18 = .int .i64 x18_1∧Aside0 (logic_Ahead.l0 kq x7_1 l0 (l0.length:Int) x18_1 = some (r1,r2))∧Aside0 (kq ≤ k)∧Aside0 (Kd.R (Kd.int .i64) 3 w' w.heap.size (fun _=>True) v7 x7_1)∧Aside0 (Below w.heap.size w w'))
  case atStart=>exact ⟨(([]:List Int)),(0),qr,H',⟨Nat.le_refl _⟩,⟨ql⟩,⟨qb⟩⟩
  case round =>
   clear H'
   try clear c2
   try clear p2
   try clear c4
   try clear c4b0
   try clear c4b1
   obtain ⟨x7_1,x18_1,rfl,HA,HK1,HO_7,HB⟩:=hrel
   cases gk with
   | zero=>exact absurd HA.out (by simp [logic_Ahead.l0])
   | succ k1 =>
    have H:=HA.out
    clear HA
    simp only [logic_Ahead.l0] at H
    rcases qj H with ⟨c6b0,H⟩|⟨c6b0,H⟩
    ·rcases qj H with ⟨c7b0,H⟩|⟨c7,H⟩
     ·rcases qj H with ⟨c8b0,H⟩|⟨c8,H⟩
      ·replace H:=zb.mp H
       obtain ⟨t197,A90,H⟩:=H
       replace H:(if t197 = true then (if x7_1.length < 17592186044416 then (logic_Ahead.l0 k1 (x7_1 ++ [x18_1]) l0 (l0.length:Int) (wrap64 (x18_1 + 1))) else (none)) else (logic_Ahead.l0 k1 x7_1 l0 (l0.length:Int) (wrap64 (x18_1 + 1)))) = some (r1,r2):=H
       have A9:=zA A90
       clear A90
       by_cases c10:t197 = true
       ·subst c10
        have H1:(if x7_1.length < 17592186044416 then (logic_Ahead.l0 k1 (x7_1 ++ [x18_1]) l0 (l0.length:Int) (wrap64 (x18_1 + 1))) else (none)) = some (r1,r2):=by rw [if_pos rfl] at H;exact H
        clear H
        have H:=H1
        clear H1
        by_cases c11:x7_1.length < 17592186044416
        ·rw [if_pos c11] at H
         have LMc11:=zA c11
         clear c11
         obtain ⟨y198,hy198⟩:∃ y_:List Int,y_ = (x7_1 ++ [x18_1]):=⟨_,rfl⟩
         replace H:(logic_Ahead.l0 k1 y198 l0 (l0.length:Int) (wrap64 (x18_1 + 1))) = some (r1,r2):=by first|(rw [hy198];with_reducible exact H)|(have H2_:=(Option.bind_some _ _).symm.trans H;rw [hy198];with_reducible exact H2_)|(have H2_:=(Option.bind_some _ _).symm.trans H;with_reducible exact H2_)|with_reducible exact H|(rw [hy198];exact H)|exact H
         have Ny198:=zA hy198
         clear hy198
         have H':=zA H
         clear H
         have p195:0 ≤ (x18_1:Int):=qd
         have q195:x18_1 < (l0.length:Int):=qd
         obtain ⟨ad195,e195,hx195_0,hx195_1⟩:=at_T65 HR0.out x18_1 p195 q195
         cases e195
         replace hx195_0:=qy HB hx195_0
         replace hx195_1:=qy HB hx195_1
         replace p195:=eq_true p195
         replace q195:=eq_true q195
         go_wp2_with (first|((with_reducible refine zV (N:=9) rfl ?_);refine bq 9 (cs:=#[.int .i64 0,.int .i64 0]) (t:=65) ?_;intro gb196 hg w12 hbox hb;replace HO_7:=zA (Kd.R_below (qR HO_7) hb);have BK196:=zA (hbox);have GW196:=zA (qg hg);have GE196:=zA (qg hg);replace HB:=zA (zH qb hb);clear hb hbox hg;have hcz13_0:=qx BK196 0;have hcz13_1:=qx BK196 1;have hfz13_0:=zJ BK196.out 0;have hfz13_1:=zJ BK196.out 1)|((with_reducible refine zU (f:=49) rfl ?_);refine gL (some 25) Tryd.func49 #[.int .i64 ((rd_T65 l0 x18_1).f0)] ?_;(with_reducible refine (logic_ahead.calls ((rd_T65 l0 x18_1).f0) true _ A9.out).mono ?_);rintro e w' ⟨rfl,⟨nd,rfl⟩⟩;refine ⟨_,rfl,?_⟩)|((with_reducible refine gate_builtin (b:=.append) (xs:=#[.tmp 26,.tmp 28]) rfl ?_);at_builtin;refine Kd.R_append (Kd.int .i64) (w0:=w) w.heap.size rfl (.tmp 26) (.tmp 28) 37 3 (.int .i64 0) 8 rfl Tryd.underlying37 info3 rfl (by decide) (by omega) u7 x7_1 x18_1 [.int .i64 x18_1] (fun _=>True) (fun _=>False) rfl (by first|(go_simp;done)|(go_simp;rfl)) rfl (fun _ hk=>hk.elim) (fun _ _=>trivial) ?aO qb qs (qo LMc11) ?_;(case aO=>exact (by (with_reducible repeat (first|apply Kd.R_alloc|apply Kd.R_drewN|apply Kd.R_drew));exact Kd.R_mono (Kd.R_far (p:=⟨gb196,1,none⟩) (Kd.R_far (p:=⟨gb196,0,none⟩) (Kd.R_types HO_7.out BK196.out (by decide)) (fun _ hk=>hk.2) (.int .i64 ((rd_T65 l0 x18_1).f0))) (fun _ hk=>hk.2) (.int .i64 ((rd_T65 l0 x18_1).f1))) (fun _ hk=>trivial)));intro v199 w14 ho hb hg hat;rw [← Ny198.out] at ho;replace BK196:=zA (blk_grown (g:=gb196) (o:=.cells #[.int .i64 ((rd_T65 l0 x18_1).f0),.int .i64 ((rd_T65 l0 x18_1).f1)] 65 (0,0)) (by (with_reducible repeat (first|refine zL ?_ _|refine zM ?_|refine zK ?_ _));refine zO (cs:=#[.int .i64 ((rd_T65 l0 x18_1).f0),.int .i64 0]) ?_ 1 _ rfl;(with_reducible repeat (first|refine zL ?_ _|refine zM ?_|refine zK ?_ _));refine zO (cs:=#[.int .i64 0,.int .i64 0]) ?_ 0 _ rfl;(with_reducible repeat (first|refine zL ?_ _|refine zM ?_|refine zK ?_ _));exact BK196.out) hg (Kd.R_ne HO_7.out BK196.out (by decide)));replace HB:=zA (hb);have HO200:=zA (ho);clear HO_7;clear ho hb hg hat))
         go_roundg k1
         case measure=>have:=HK1.out;omega
         case rel=>exact ⟨(y198),(wrap64 (x18_1 + 1)),qr,H',⟨qo HK1⟩,⟨qR HO200⟩,⟨qb⟩⟩
        ·rw [if_neg c11] at H
         exact absurd H (by simp)
       ·replace c10:=Bool.eq_false_iff.mpr c10
        subst c10
        have H1:(logic_Ahead.l0 k1 x7_1 l0 (l0.length:Int) (wrap64 (x18_1 + 1))) = some (r1,r2):=by rw [if_neg (show ¬ (false = true) by decide)] at H;exact H
        clear H
        have H:=H1
        clear H1
        have H':=zA H
        clear H
        have p195:0 ≤ (x18_1:Int):=qd
        have q195:x18_1 < (l0.length:Int):=qd
        obtain ⟨ad195,e195,hx195_0,hx195_1⟩:=at_T65 HR0.out x18_1 p195 q195
        cases e195
        replace hx195_0:=qy HB hx195_0
        replace hx195_1:=qy HB hx195_1
        replace p195:=eq_true p195
        replace q195:=eq_true q195
        go_wp2_with (first|((with_reducible refine zV (N:=9) rfl ?_);refine bq 9 (cs:=#[.int .i64 0,.int .i64 0]) (t:=65) ?_;intro gb196 hg w15 hbox hb;replace HO_7:=zA (Kd.R_below (qR HO_7) hb);have BK196:=zA (hbox);have GW196:=zA (qg hg);have GE196:=zA (qg hg);replace HB:=zA (zH qb hb);clear hb hbox hg;have hcz16_0:=qx BK196 0;have hcz16_1:=qx BK196 1;have hfz16_0:=zJ BK196.out 0;have hfz16_1:=zJ BK196.out 1)|((with_reducible refine zU (f:=49) rfl ?_);refine gL (some 25) Tryd.func49 #[.int .i64 ((rd_T65 l0 x18_1).f0)] ?_;(with_reducible refine (logic_ahead.calls ((rd_T65 l0 x18_1).f0) false _ A9.out).mono ?_);rintro e w' ⟨rfl,⟨nd,rfl⟩⟩;refine ⟨_,rfl,?_⟩))
        go_roundg k1
        case measure=>have:=HK1.out;omega
        case rel=>exact ⟨(x7_1),(wrap64 (x18_1 + 1)),qr,H',⟨qo HK1⟩,⟨by (with_reducible repeat (first|apply Kd.R_alloc|apply Kd.R_drewN|apply Kd.R_drew));exact Kd.R_mono (Kd.R_far (p:=⟨gb196,1,none⟩) (Kd.R_far (p:=⟨gb196,0,none⟩) (Kd.R_types HO_7.out BK196.out (by decide)) (fun _ hk=>hk.2) (.int .i64 ((rd_T65 l0 x18_1).f0))) (fun _ hk=>hk.2) (.int .i64 ((rd_T65 l0 x18_1).f1))) (fun _ hk=>trivial)⟩,⟨qb⟩⟩
      ·exact absurd H (by simp)
     ·exact absurd H (by simp)
    ·simp only [Option.some.injEq,Prod.mk.injEq] at H
     obtain ⟨rfl,rfl⟩:=H
     go_wp2
     go_ret2
     exact ⟨_,qe,qR HO_7,qb⟩
 ·rw [if_neg c4] at H
  have c4b0:(t194 == 0) = false:=beq_eq_false_iff_ne.mpr c4
  have c4b1:(t194 != 0) = true:=bne_iff_ne.mpr c4
  simp only [Option.some.injEq,Prod.mk.injEq] at H
  obtain ⟨rfl,rfl⟩:=H
  go_enter Tryd.func26,Tryd.ntmps26
  go_wp2_with (first|((with_reducible refine zU (f:=41) rfl ?_);refine gL (some 12) Tryd.func41 #[.slice A0 l0.length c0,.int .i64 a1] ?_;(with_reducible refine (logic_Check.calls k _ _ l0 a1 t194 _ (qu HR0.out) HC0.out qD A3.out).mono ?_);rintro e w17 ⟨rfl,hb⟩;refine ⟨_,rfl,?_⟩;replace HB:=zA (zH qb hb);clear hb))
  go_ret2
  exact ⟨_,qe,ql,qb⟩
end Go.Proofs.YthffpjkkmkjplaaDoor.S
namespace Go.Proofs.YthffpjkkmkjplaaDoor.S
open Go.Proofs.YthffpjkkmkjplaaDoor.Al
open Option renaming bind_eq_some_iff → zb
open Go.Proofs.YthffpjkkmkjplaaDoorW.PrintWords renaming below_step → zH, blk_frozen → zJ, gate_callee → zU, gate_dst → zV
open Go.Proofs.YthffpjkkmkjplaaDoor.Sq
open Go.RowKit Go.Proofs.YthffpjkkmkjplaaDoorW.PrintWords Go.Proofs.YthffpjkkmkjplaaDoorW.PrintLast Go.Proofs.YthffpjkkmkjplaaDoorW.PrintMore
attribute [local go_sem] max2_int min2_int max_two min_two max_three min_three max_four min_four
set_option linter.unusedVariables false
set_option linter.unusedSimpArgs false
def product_claims.f (k:Nat) (l0_0:List (S86)) (l0_1:List (S93)) (l0_2:List (List (S65))) (l0_3:List (S65)):Option (Int):=(logic_Ahead.f k l0_3 (l0_2.length:Int)).bind fun bt202=>(some (shl .i64 1 (bt202.1.length:Int)))
theorem product_claims.mono:∀ a0 a1 a2 a3 k,LeO (product_claims.f k a0 a1 a2 a3) (product_claims.f (k + 1) a0 a1 a2 a3):=by
 intro a0 a1 a2 a3 k
 unfold product_claims.f
 exact qM @logic_Ahead.mono
set_option maxHeartbeats 8000000 in
set_option maxRecDepth 100000 in
theorem product_claims.calls (k:Nat) (A0_0:Option Addr) (c0_0:Nat) (l0_0:List (S86)) (A0_1:Option Addr) (c0_1:Nat) (l0_1:List (S93)) (A0_2:Option Addr) (c0_2:Nat) (l0_2:List (List (S65))) (A0_3:Option Addr) (c0_3:Nat) (l0_3:List (S65)) (r:Int) (w:World) (hr0_0:Kd.C k86 w A0_0 l0_0.length l0_0) (hc0_0:l0_0.length ≤ c0_0) (hr0_1:Kd.C k93 w A0_1 l0_1.length l0_1) (hc0_1:l0_1.length ≤ c0_1) (hr0_2:Kd.C (Kd.slice 65 k65) w A0_2 l0_2.length l0_2) (hc0_2:l0_2.length ≤ c0_2) (hr0_3:Kd.C k65 w A0_3 l0_3.length l0_3) (hc0_3:l0_3.length ≤ c0_3) (hL:LaidG w) (h:product_claims.f k l0_0 l0_1 l0_2 l0_3 = some r) :
  Calls Tryd.prog 31 #[.agg #[.slice A0_0 l0_0.length c0_0,.slice A0_1 l0_1.length c0_1,.slice A0_2 l0_2.length c0_2,.slice A0_3 l0_3.length c0_3]] w fun e w'=>e = .returned (.int .i64 r)∧Below w.heap.size w w':=by
 have HLd:=zA hL
 clear hL
 have hu47:=Tryd.underlying47
 have HR0_0:=zA hr0_0
 have HC0_0:=zA hc0_0
 clear hr0_0 hc0_0
 have HR0_1:=zA hr0_1
 have HC0_1:=zA hc0_1
 clear hr0_1 hc0_1
 have HR0_2:=zA hr0_2
 have HC0_2:=zA hc0_2
 clear hr0_2 hc0_2
 have HR0_3:=zA hr0_3
 have HC0_3:=zA hc0_3
 clear hr0_3 hc0_3
 have HB:=zA (Below.refl w.heap.size w)
 have H:((logic_Ahead.f k l0_3 (l0_2.length:Int)).bind fun bt202=>(some (shl .i64 1 (bt202.1.length:Int)))) = some r:=h
 clear h
 replace H:=zb.mp H
 obtain ⟨⟨t202,t203⟩,A20,H⟩:=H
 replace H:(some (shl .i64 1 (t202.length:Int))) = some r:=H
 have A2:=zA A20
 clear A20
 obtain ⟨ji3,hji3⟩:∃ j_:Int,(shl .i64 1 (t202.length:Int)) = j_:=⟨_,rfl⟩
 replace H:(some ji3) = some r:=by first|(rw [hji3] at H;exact H)|(simp only [hji3] at H ⊢;exact H)
 (try rw [hji3] at A2)
 have hji3_:(IntKind.i64.wrap (1 * 2 ^ min (t202.length:Int).toNat 64)) = ji3:=hji3
 have hji3z:(t202.length:Int) ≤ 64 → (IntKind.i64.wrap (1 * 2 ^ (t202.length:Int).toNat)) = ji3:=shl_small hji3
 have hji3p:(IntKind.i64.wrap (1 * 2 ^ min t202.length 64)) = ji3:=hji3_
 have hji3q:(t202.length:Int) ≤ 64 → (IntKind.i64.wrap (1 * 2 ^ t202.length)) = ji3:=hji3z
 have hji3r:(IntKind.i64.wrap (2 ^ min t202.length 64)) = ji3:=by have h_:=hji3p;rw [Int.one_mul] at h_;exact h_
 have hji3s:(t202.length:Int) ≤ 64 → (IntKind.i64.wrap (2 ^ t202.length)) = ji3:=fun hle_=>by have h_:=hji3q hle_;rw [Int.one_mul] at h_;exact h_
 have hji3u:(IntKind.i64.wrap (2 ^ min (t202.length:Int).toNat 64)) = ji3:=by have h_:=hji3_;rw [Int.one_mul] at h_;exact h_
 have hji3v:(t202.length:Int) ≤ 64 → (IntKind.i64.wrap (2 ^ (t202.length:Int).toNat)) = ji3:=fun hle_=>by have h_:=hji3z hle_;rw [Int.one_mul] at h_;exact h_
 have hji3y:(wrap64 (1 * 2 ^ min (t202.length:Int).toNat 64)) = ji3:=(i64_w _).symm.trans hji3_
 have hji3x:(t202.length:Int) ≤ 64 → (wrap64 (1 * 2 ^ (t202.length:Int).toNat)) = ji3:=fun h_=>(i64_w _).symm.trans (hji3z h_)
 obtain rfl:=Option.some.inj H
 go_enter Tryd.func31,Tryd.ntmps31
 go_wp2_with (first|((with_reducible refine zV (N:=1) rfl ?_);refine bq 1 (cs:=#[.slice A0_0 l0_0.length c0_0,.slice A0_1 l0_1.length c0_1,.slice A0_2 l0_2.length c0_2,.slice A0_3 l0_3.length c0_3]) (t:=47) ?_;intro gb201 hg w4 hbox hb;have BK201:=zA (hbox);have GW201:=zA (qg hg);have GE201:=zA (qg hg);replace HB:=zA (zH qb hb);clear hb hbox hg;have hcz5_0:=qx BK201 0;have hcz5_1:=qx BK201 1;have hcz5_2:=qx BK201 2;have hcz5_3:=qx BK201 3;have hfz5_0:=zJ BK201.out 0;have hfz5_1:=zJ BK201.out 1;have hfz5_2:=zJ BK201.out 2;have hfz5_3:=zJ BK201.out 3)|((with_reducible refine zU (f:=26) rfl ?_);refine gL (some 11) Tryd.func26 #[.slice A0_3 l0_3.length c0_3,.int .i64 (l0_2.length:Int)] ?_;(with_reducible refine (logic_Ahead.calls k _ _ l0_3 (l0_2.length:Int) t202 t203 _ (qc HR0_3) HC0_3.out qD A2.out).mono ?_);rintro e w6 ⟨v204,rfl,ho0,hb⟩;refine ⟨_,rfl,?_⟩;have HO205:=zA (Kd.R_lower ho0 qs);replace BK201:=qK BK201 hb;replace HB:=zA (zH qb hb);clear ho0 hb;obtain ⟨Ao7,co7,eo7⟩:=Kd.R_slice HO205.out;subst eo7))
 go_ret
 exact ⟨by first|rfl|(simp [errW_none,errW_some] <;> rfl)|(simp only [← hji3];first|rfl|(simp [errW_none,errW_some] <;> rfl))|(simp [*,errW_none,errW_some] <;> rfl),qb⟩
end Go.Proofs.YthffpjkkmkjplaaDoor.S
namespace Go.Proofs.YthffpjkkmkjplaaDoor.S
open Go.Proofs.YthffpjkkmkjplaaDoor.Al
open Option renaming bind_eq_some_iff → zb
open Go.Proofs.YthffpjkkmkjplaaDoorW.PrintWords renaming gate_callee → zU
open Go.Proofs.YthffpjkkmkjplaaDoor.Sq
open Go.RowKit Go.Proofs.YthffpjkkmkjplaaDoorW.PrintWords Go.Proofs.YthffpjkkmkjplaaDoorW.PrintLast Go.Proofs.YthffpjkkmkjplaaDoorW.PrintMore
attribute [local go_sem] max2_int min2_int max_two min_two max_three min_three max_four min_four
set_option linter.unusedVariables false
set_option linter.unusedSimpArgs false
def foretellref_looksAhead.f (a0:Int):Option (Bool):=(foretellref_In.f a0 14 18).bind fun t271=>(some t271)
set_option maxHeartbeats 8000000 in
set_option maxRecDepth 100000 in
theorem foretellref_looksAhead.calls (a0:Int) (r:Bool) (w:World) (h:foretellref_looksAhead.f a0 = some r) :
  Calls Tryd.prog 27 #[.int .i64 a0] w fun e w'=>e = .returned (.bool r)∧Drawn0 w w':=by
 have H:((foretellref_In.f a0 14 18).bind fun t271=>(some t271)) = some r:=h
 clear h
 replace H:=zb.mp H
 obtain ⟨t271,A20,H⟩:=H
 replace H:(some t271) = some r:=H
 have A2:=zA A20
 clear A20
 obtain rfl:=Option.some.inj H
 go_enter Tryd.func27,Tryd.ntmps27
 go_wp2_with (first|((with_reducible refine zU (f:=50) rfl ?_);refine gL (some 4) Tryd.func50 #[.int .i64 a0,.int .i64 14,.int .i64 18] ?_;(with_reducible refine (foretellref_In.calls a0 14 18 t271 _ A2.out).mono ?_);rintro e w' ⟨rfl,⟨nd,rfl⟩⟩;refine ⟨_,rfl,?_⟩))
 go_ret
 exact ⟨qr,qt⟩
end Go.Proofs.YthffpjkkmkjplaaDoor.S
namespace Go.Proofs.YthffpjkkmkjplaaDoor.S
open Go.Proofs.YthffpjkkmkjplaaDoor.Al
open Option renaming bind_eq_some_iff → zb
open Go.Proofs.YthffpjkkmkjplaaDoorW.PrintWords renaming below_step → zH, gate_callee → zU
open Go.Proofs.YthffpjkkmkjplaaDoor.Sq
open Go.RowKit Go.Proofs.YthffpjkkmkjplaaDoorW.PrintWords Go.Proofs.YthffpjkkmkjplaaDoorW.PrintLast Go.Proofs.YthffpjkkmkjplaaDoorW.PrintMore
attribute [local go_sem] max2_int min2_int max_two min_two max_three min_three max_four min_four
set_option linter.unusedVariables false
set_option linter.unusedSimpArgs false
mutual
def foretellref_FormulaFault.l0:Nat → List (S65) → Int → Int → Int → Option (Int)
 | 0,_,_,_,_=>none
 | k + 1,x0,x1,x7,x8=>if x8 < (x0.length:Int) then (if 0 ≤ x8 then (if ((rd_T65 x0 x8).f0) < 8 then (some 13) else (if ((rd_T65 x0 x8).f0) = 13 then (foretellref_FormulaFault.j1 k x0 x1 x7 x8 (wrap64 (x1 - 1))) else (foretellref_FormulaFault.j1 k x0 x1 x7 x8 0))) else (none)) else (if x7 > 6 then (some 1) else (some 0))
def foretellref_FormulaFault.j1:Nat → List (S65) → Int → Int → Int → Int → Option (Int)
 | 0,_,_,_,_,_=>none
 | k + 1,x0,x1,x7,x8,x9=>if 0 ≤ x8 then (if x8 < (x0.length:Int) then ((foretellref_In.f ((rd_T65 x0 x8).f1) 0 x9).bind fun t290=>(if t290 = true then ((foretellref_looksAhead.f ((rd_T65 x0 x8).f0)).bind fun t292=>(if t292 = true then (foretellref_FormulaFault.l0 k x0 x1 (wrap64 (x7 + 1)) (wrap64 (x8 + 1))) else (foretellref_FormulaFault.l0 k x0 x1 x7 (wrap64 (x8 + 1))))) else (some 2))) else (none)) else (none)
end
def foretellref_FormulaFault.f (k:Nat) (l0:List (S65)) (a1:Int):Option (Int):=(foretellref_In.f a1 0 6).bind fun t282=>(if t282 = true then ((foretellref_EndsOf.f k l0).bind fun bt283=>(if bt283.2 = 0 then (foretellref_FormulaFault.l0 k l0 a1 0 0) else (some bt283.2))) else (some 2))
theorem foretellref_FormulaFault.mono_l:∀ k,(∀ y0 y1 y2 y3,LeO (foretellref_FormulaFault.l0 k y0 y1 y2 y3) (foretellref_FormulaFault.l0 (k + 1) y0 y1 y2 y3))∧(∀ y0 y1 y2 y3 y4,LeO (foretellref_FormulaFault.j1 k y0 y1 y2 y3 y4) (foretellref_FormulaFault.j1 (k + 1) y0 y1 y2 y3 y4))
 | 0=>⟨fun _ _ _ _ r h=>by simp [foretellref_FormulaFault.l0] at h,fun _ _ _ _ _ r h=>by simp [foretellref_FormulaFault.j1] at h⟩
 | k + 1=>by
  obtain ⟨ih0,ih1⟩:=foretellref_FormulaFault.mono_l k
  refine ⟨?_,?_⟩
  ·intro y0 y1 y2 y3
   unfold foretellref_FormulaFault.l0
   exact qM @foretellref_EndsOf.mono
  ·intro y0 y1 y2 y3 y4
   unfold foretellref_FormulaFault.j1
   exact qM @foretellref_EndsOf.mono
theorem foretellref_FormulaFault.mono:∀ a0 a1 k,LeO (foretellref_FormulaFault.f k a0 a1) (foretellref_FormulaFault.f (k + 1) a0 a1):=by
 intro a0 a1 k
 obtain ⟨ih0,ih1⟩:=foretellref_FormulaFault.mono_l k
 unfold foretellref_FormulaFault.f
 exact qM @foretellref_EndsOf.mono
set_option maxHeartbeats 8000000 in
set_option maxRecDepth 100000 in
theorem foretellref_FormulaFault.calls (k:Nat) (A0:Option Addr) (c0:Nat) (l0:List (S65)) (a1:Int) (r:Int) (w:World) (hr0:Kd.C k65 w A0 l0.length l0) (hc0:l0.length ≤ c0) (h:foretellref_FormulaFault.f k l0 a1 = some r) :
  Calls Tryd.prog 46 #[.slice A0 l0.length c0,.int .i64 a1] w fun e w'=>e = .returned (.int .i64 r)∧Below w.heap.size w w':=by
 have HR0:=zA hr0
 have HC0:=zA hc0
 clear hr0 hc0
 have HB:=zA (Below.refl w.heap.size w)
 have H:((foretellref_In.f a1 0 6).bind fun t282=>(if t282 = true then ((foretellref_EndsOf.f k l0).bind fun bt283=>(if bt283.2 = 0 then (foretellref_FormulaFault.l0 k l0 a1 0 0) else (some bt283.2))) else (some 2))) = some r:=h
 clear h
 replace H:=zb.mp H
 obtain ⟨t282,A30,H⟩:=H
 replace H:(if t282 = true then ((foretellref_EndsOf.f k l0).bind fun bt283=>(if bt283.2 = 0 then (foretellref_FormulaFault.l0 k l0 a1 0 0) else (some bt283.2))) else (some 2)) = some r:=H
 have A3:=zA A30
 clear A30
 by_cases c4:t282 = true
 ·subst c4
  have H1:((foretellref_EndsOf.f k l0).bind fun bt283=>(if bt283.2 = 0 then (foretellref_FormulaFault.l0 k l0 a1 0 0) else (some bt283.2))) = some r:=by rw [if_pos rfl] at H;exact H
  clear H
  have H:=H1
  clear H1
  replace H:=zb.mp H
  obtain ⟨⟨t283,t284⟩,A50,H⟩:=H
  replace H:(if t284 = 0 then (foretellref_FormulaFault.l0 k l0 a1 0 0) else (some t284)) = some r:=H
  have A5:=zA A50
  clear A50
  by_cases c6:t284 = 0
  ·rw [if_pos c6] at H
   have c6b0:(t284 == 0) = true:=beq_iff_eq.mpr c6
   have c6b1:(t284 != 0) = false:=bne_eq_false_iff_eq.mpr c6
   clear c6
   have H':=zA H
   clear H
   go_enter Tryd.func46,Tryd.ntmps46
   go_wp2_with (first|((with_reducible refine zU (f:=50) rfl ?_);refine gL (some 11) Tryd.func50 #[.int .i64 a1,.int .i64 0,.int .i64 6] ?_;(with_reducible refine (foretellref_In.calls a1 0 6 true _ A3.out).mono ?_);rintro e w' ⟨rfl,⟨nd,rfl⟩⟩;refine ⟨_,rfl,?_⟩)|((with_reducible refine zU (f:=74) rfl ?_);refine gL (some 15) Tryd.func74 #[.slice A0 l0.length c0] ?_;(with_reducible refine (foretellref_EndsOf.calls k _ _ l0 t283 t284 _ (qu HR0.out) HC0.out A5.out).mono ?_);rintro e w7 ⟨v285,rfl,ho0,hb⟩;refine ⟨_,rfl,?_⟩;have HO286:=zA (Kd.R_lower ho0 qs);replace HB:=zA (zH qb hb);clear ho0 hb))
   go_loopg [7,8] k (fun kq v7 v8 w'=>∃ (x7_1:Int) (x8_1:Int),v7 = .int .i64 x7_1∧v8 = .int .i64 x8_1∧Aside0 (foretellref_FormulaFault.l0 kq l0 a1 x7_1 x8_1 = some r)∧Aside0 (kq ≤ k)∧Aside0 (Below w.heap.size w w'))
   case atStart=>exact ⟨(0),(0),qr,qr,H',⟨Nat.le_refl _⟩,⟨qb⟩⟩
   case round =>
    clear H'
    try clear p2
    try clear c4
    try clear c5
    try clear c6
    try clear c6b0
    try clear c6b1
    try clear c7
    obtain ⟨x7_1,x8_1,rfl,rfl,HA,HK1,HB⟩:=hrel
    cases gk with
    | zero=>exact absurd HA.out (by simp [foretellref_FormulaFault.l0])
    | succ k1 =>
     have H:=HA.out
     clear HA
     simp only [foretellref_FormulaFault.l0] at H
     rcases qj H with ⟨c8b0,H⟩|⟨c8b0,H⟩
     ·rcases qj H with ⟨c9b0,H⟩|⟨c9,H⟩
      ·rcases qj H with ⟨c10b0,H⟩|⟨c10b0,H⟩
       ·obtain rfl:=Option.some.inj H
        have p287:0 ≤ (x8_1:Int):=qd
        have q287:x8_1 < (l0.length:Int):=qd
        obtain ⟨ad287,e287,hx287_0,hx287_1⟩:=at_T65 HR0.out x8_1 p287 q287
        cases e287
        replace hx287_0:=qy HB hx287_0
        replace hx287_1:=qy HB hx287_1
        replace p287:=eq_true p287
        replace q287:=eq_true q287
        go_wp2
        go_ret
        exact ⟨qe,qb⟩
       ·have HC11:=zA H
        clear H
        have p287:0 ≤ (x8_1:Int):=qd
        have q287:x8_1 < (l0.length:Int):=qd
        obtain ⟨ad287,e287,hx287_0,hx287_1⟩:=at_T65 HR0.out x8_1 p287 q287
        cases e287
        replace hx287_0:=qy HB hx287_0
        replace hx287_1:=qy HB hx287_1
        replace p287:=eq_true p287
        replace q287:=eq_true q287
        have p288:0 ≤ (x8_1:Int):=qd
        have q288:x8_1 < (l0.length:Int):=qd
        obtain ⟨ad288,e288,hx288_0,hx288_1⟩:=at_T65 HR0.out x8_1 p288 q288
        obtain rfl:ad287 = ad288:=(by injection e288)
        replace hx288_0:=qy HB hx288_0
        replace hx288_1:=qy HB hx288_1
        replace p288:=eq_true p288
        replace q288:=eq_true q288
        go_upto_if 38 with (fail)
        go_cut [9] (fun v9 wc=>∃ (kq:Nat) (x9_10:Int),v9 = .int .i64 x9_10∧Aside0 (foretellref_FormulaFault.j1 kq l0 a1 x7_1 x8_1 x9_10 = some r)∧Aside0 (kq ≤ k1)∧Aside0 (Below w.heap.size w wc))
        case first =>
         have H:=HC11.out
         clear HC11
         by_cases c12:((rd_T65 l0 x8_1).f0) = 13
         ·rw [if_pos c12] at H
          have c12b0:(((rd_T65 l0 x8_1).f0) == 13) = true:=beq_iff_eq.mpr c12
          have c12b1:(((rd_T65 l0 x8_1).f0) != 13) = false:=bne_eq_false_iff_eq.mpr c12
          clear c12
          (first|rw [c12b0]|(simp only [i64_w,i32_w];rw [c12b0])|skip)
          have H':=zA H
          clear H
          go_wp2
          go_meet
          case rel=>exact ⟨_,(wrap64 (a1 - 1)),qr,H',⟨qo HK1⟩,⟨qb⟩⟩
         ·rw [if_neg c12] at H
          have c12b0:(((rd_T65 l0 x8_1).f0) == 13) = false:=beq_eq_false_iff_ne.mpr c12
          have c12b1:(((rd_T65 l0 x8_1).f0) != 13) = true:=bne_iff_ne.mpr c12
          (first|rw [c12b0]|(simp only [i64_w,i32_w];rw [c12b0])|skip)
          have H':=zA H
          clear H
          go_wp2
          go_meet
          case rel=>exact ⟨_,(0),qr,H',⟨qo HK1⟩,⟨qb⟩⟩
        case rest =>
         clear HC11
         try clear c1
         try clear p2
         try clear q2
         try clear hx2
         try clear c4
         try clear c5
         try clear c6
         try clear c6b0
         try clear c6b1
         try clear p6
         try clear c7
         try clear c8
         try clear c8b0
         try clear c9
         try clear c9b0
         try clear c10
         try clear c10b0
         try clear c12
         try clear c12b0
         try clear c12b1
         try clear hx287_0
         try clear hx287_1
         try clear hx288_0
         try clear hx288_1
         try clear p2
         try clear p287
         try clear p288
         try clear q287
         try clear q288
         obtain ⟨kq,x9_10,rfl,HA,HJ10,HB⟩:=hcut
         cases kq with
         | zero=>exact absurd HA.out (by simp [foretellref_FormulaFault.j1])
         | succ kj10 =>
          have H:=HA.out
          clear HA
          simp only [foretellref_FormulaFault.j1] at H
          rcases qj H with ⟨c13b0,H⟩|⟨c13,H⟩
          ·rcases qj H with ⟨c14b0,H⟩|⟨c14,H⟩
           ·replace H:=zb.mp H
            obtain ⟨t290,A150,H⟩:=H
            replace H:(if t290 = true then ((foretellref_looksAhead.f ((rd_T65 l0 x8_1).f0)).bind fun t292=>(if t292 = true then (foretellref_FormulaFault.l0 kj10 l0 a1 (wrap64 (x7_1 + 1)) (wrap64 (x8_1 + 1))) else (foretellref_FormulaFault.l0 kj10 l0 a1 x7_1 (wrap64 (x8_1 + 1))))) else (some 2)) = some r:=H
            have A15:=zA A150
            clear A150
            by_cases c16:t290 = true
            ·subst c16
             have H1:((foretellref_looksAhead.f ((rd_T65 l0 x8_1).f0)).bind fun t292=>(if t292 = true then (foretellref_FormulaFault.l0 kj10 l0 a1 (wrap64 (x7_1 + 1)) (wrap64 (x8_1 + 1))) else (foretellref_FormulaFault.l0 kj10 l0 a1 x7_1 (wrap64 (x8_1 + 1))))) = some r:=by rw [if_pos rfl] at H;exact H
             clear H
             have H:=H1
             clear H1
             replace H:=zb.mp H
             obtain ⟨t292,A170,H⟩:=H
             replace H:(if t292 = true then (foretellref_FormulaFault.l0 kj10 l0 a1 (wrap64 (x7_1 + 1)) (wrap64 (x8_1 + 1))) else (foretellref_FormulaFault.l0 kj10 l0 a1 x7_1 (wrap64 (x8_1 + 1)))) = some r:=H
             have A17:=zA A170
             clear A170
             by_cases c18:t292 = true
             ·subst c18
              have H1:(foretellref_FormulaFault.l0 kj10 l0 a1 (wrap64 (x7_1 + 1)) (wrap64 (x8_1 + 1))) = some r:=by rw [if_pos rfl] at H;exact H
              clear H
              have H:=H1
              clear H1
              have H':=zA H
              clear H
              have p289:0 ≤ (x8_1:Int):=qd
              have q289:x8_1 < (l0.length:Int):=qd
              obtain ⟨ad289,e289,hx289_0,hx289_1⟩:=at_T65 HR0.out x8_1 p289 q289
              obtain rfl:ad287 = ad289:=(by injection e289)
              replace hx289_0:=qy HB hx289_0
              replace hx289_1:=qy HB hx289_1
              replace p289:=eq_true p289
              replace q289:=eq_true q289
              go_wp2_with (first|((with_reducible refine zU (f:=50) rfl ?_);refine gL (some 47) Tryd.func50 #[.int .i64 ((rd_T65 l0 x8_1).f1),.int .i64 0,.int .i64 x9_10] ?_;(with_reducible refine (foretellref_In.calls ((rd_T65 l0 x8_1).f1) 0 x9_10 true _ A15.out).mono ?_);rintro e w' ⟨rfl,⟨nd,rfl⟩⟩;refine ⟨_,rfl,?_⟩;have p291:0 ≤ (x8_1:Int):=qd;have q291:x8_1 < (l0.length:Int):=qd;obtain ⟨ad291,e291,hx291_0,hx291_1⟩:=at_T65 HR0.out x8_1 p291 q291;obtain rfl:ad287 = ad291:=(by injection e291);replace hx291_0:=qy HB hx291_0;replace hx291_1:=qy HB hx291_1;replace p291:=eq_true p291;replace q291:=eq_true q291)|((with_reducible refine zU (f:=27) rfl ?_);refine gL (some 54) Tryd.func27 #[.int .i64 ((rd_T65 l0 x8_1).f0)] ?_;(with_reducible refine (foretellref_looksAhead.calls ((rd_T65 l0 x8_1).f0) true _ A17.out).mono ?_);rintro e w' ⟨rfl,⟨nd,rfl⟩⟩;refine ⟨_,rfl,?_⟩))
              go_roundg kj10
              case measure=>have:=HK1.out;have:=HJ10.out;omega
              case rel=>exact ⟨(wrap64 (x7_1 + 1)),(wrap64 (x8_1 + 1)),qr,qr,H',⟨qp HK1 HJ10⟩,⟨qb⟩⟩
             ·replace c18:=Bool.eq_false_iff.mpr c18
              subst c18
              have H1:(foretellref_FormulaFault.l0 kj10 l0 a1 x7_1 (wrap64 (x8_1 + 1))) = some r:=by rw [if_neg (show ¬ (false = true) by decide)] at H;exact H
              clear H
              have H:=H1
              clear H1
              have H':=zA H
              clear H
              have p289:0 ≤ (x8_1:Int):=qd
              have q289:x8_1 < (l0.length:Int):=qd
              obtain ⟨ad289,e289,hx289_0,hx289_1⟩:=at_T65 HR0.out x8_1 p289 q289
              obtain rfl:ad287 = ad289:=(by injection e289)
              replace hx289_0:=qy HB hx289_0
              replace hx289_1:=qy HB hx289_1
              replace p289:=eq_true p289
              replace q289:=eq_true q289
              go_wp2_with (first|((with_reducible refine zU (f:=50) rfl ?_);refine gL (some 47) Tryd.func50 #[.int .i64 ((rd_T65 l0 x8_1).f1),.int .i64 0,.int .i64 x9_10] ?_;(with_reducible refine (foretellref_In.calls ((rd_T65 l0 x8_1).f1) 0 x9_10 true _ A15.out).mono ?_);rintro e w' ⟨rfl,⟨nd,rfl⟩⟩;refine ⟨_,rfl,?_⟩;have p291:0 ≤ (x8_1:Int):=qd;have q291:x8_1 < (l0.length:Int):=qd;obtain ⟨ad291,e291,hx291_0,hx291_1⟩:=at_T65 HR0.out x8_1 p291 q291;obtain rfl:ad287 = ad291:=(by injection e291);replace hx291_0:=qy HB hx291_0;replace hx291_1:=qy HB hx291_1;replace p291:=eq_true p291;replace q291:=eq_true q291)|((with_reducible refine zU (f:=27) rfl ?_);refine gL (some 54) Tryd.func27 #[.int .i64 ((rd_T65 l0 x8_1).f0)] ?_;(with_reducible refine (foretellref_looksAhead.calls ((rd_T65 l0 x8_1).f0) false _ A17.out).mono ?_);rintro e w' ⟨rfl,⟨nd,rfl⟩⟩;refine ⟨_,rfl,?_⟩))
              go_roundg kj10
              case measure=>have:=HK1.out;have:=HJ10.out;omega
              case rel=>exact ⟨(x7_1),(wrap64 (x8_1 + 1)),qr,qr,H',⟨qp HK1 HJ10⟩,⟨qb⟩⟩
            ·replace c16:=Bool.eq_false_iff.mpr c16
             subst c16
             have H1:(some 2) = some r:=by rw [if_neg (show ¬ (false = true) by decide)] at H;exact H
             clear H
             have H:=H1
             clear H1
             obtain rfl:=Option.some.inj H
             have p289:0 ≤ (x8_1:Int):=qd
             have q289:x8_1 < (l0.length:Int):=qd
             obtain ⟨ad289,e289,hx289_0,hx289_1⟩:=at_T65 HR0.out x8_1 p289 q289
             obtain rfl:ad287 = ad289:=(by injection e289)
             replace hx289_0:=qy HB hx289_0
             replace hx289_1:=qy HB hx289_1
             replace p289:=eq_true p289
             replace q289:=eq_true q289
             go_wp2_with (first|((with_reducible refine zU (f:=50) rfl ?_);refine gL (some 47) Tryd.func50 #[.int .i64 ((rd_T65 l0 x8_1).f1),.int .i64 0,.int .i64 x9_10] ?_;(with_reducible refine (foretellref_In.calls ((rd_T65 l0 x8_1).f1) 0 x9_10 false _ A15.out).mono ?_);rintro e w' ⟨rfl,⟨nd,rfl⟩⟩;refine ⟨_,rfl,?_⟩))
             go_ret
             exact ⟨qe,qb⟩
           ·exact absurd H (by simp)
          ·exact absurd H (by simp)
      ·exact absurd H (by simp)
     ·by_cases c19:x7_1 > 6
      ·rw [if_pos c19] at H
       have c19b0:decide (6 < x7_1) = true:=zQ c19
       clear c19
       obtain rfl:=Option.some.inj H
       go_wp2
       go_ret
       exact ⟨qe,qb⟩
      ·rw [if_neg c19] at H
       have c19b0:decide (6 < x7_1) = false:=zR c19
       clear c19
       obtain rfl:=Option.some.inj H
       go_wp2
       go_ret
       exact ⟨qe,qb⟩
  ·rw [if_neg c6] at H
   have c6b0:(t284 == 0) = false:=beq_eq_false_iff_ne.mpr c6
   have c6b1:(t284 != 0) = true:=bne_iff_ne.mpr c6
   obtain rfl:=Option.some.inj H
   go_enter Tryd.func46,Tryd.ntmps46
   go_wp2_with (first|((with_reducible refine zU (f:=50) rfl ?_);refine gL (some 11) Tryd.func50 #[.int .i64 a1,.int .i64 0,.int .i64 6] ?_;(with_reducible refine (foretellref_In.calls a1 0 6 true _ A3.out).mono ?_);rintro e w' ⟨rfl,⟨nd,rfl⟩⟩;refine ⟨_,rfl,?_⟩)|((with_reducible refine zU (f:=74) rfl ?_);refine gL (some 15) Tryd.func74 #[.slice A0 l0.length c0] ?_;(with_reducible refine (foretellref_EndsOf.calls k _ _ l0 t283 t284 _ (qu HR0.out) HC0.out A5.out).mono ?_);rintro e w20 ⟨v285,rfl,ho0,hb⟩;refine ⟨_,rfl,?_⟩;have HO286:=zA (Kd.R_lower ho0 qs);replace HB:=zA (zH qb hb);clear ho0 hb))
   go_ret
   exact ⟨qe,qb⟩
 ·replace c4:=Bool.eq_false_iff.mpr c4
  subst c4
  have H1:(some 2) = some r:=by rw [if_neg (show ¬ (false = true) by decide)] at H;exact H
  clear H
  have H:=H1
  clear H1
  obtain rfl:=Option.some.inj H
  go_enter Tryd.func46,Tryd.ntmps46
  go_wp2_with (first|((with_reducible refine zU (f:=50) rfl ?_);refine gL (some 11) Tryd.func50 #[.int .i64 a1,.int .i64 0,.int .i64 6] ?_;(with_reducible refine (foretellref_In.calls a1 0 6 false _ A3.out).mono ?_);rintro e w' ⟨rfl,⟨nd,rfl⟩⟩;refine ⟨_,rfl,?_⟩))
  go_ret
  exact ⟨qe,qb⟩
end Go.Proofs.YthffpjkkmkjplaaDoor.S
