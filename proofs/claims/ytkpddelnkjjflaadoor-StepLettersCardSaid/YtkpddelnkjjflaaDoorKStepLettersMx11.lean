-- Cut by a program of this session (wip/prune.py) from a longer text: declarations that the law does not need are left out.
import Derived.Test.YtkpddelnkjjflaaDoorKStepLettersMx0
import Derived.Test.YtkpddelnkjjflaaDoorKStepLettersMx3
import Derived.Test.YtkpddelnkjjflaaDoorKStepLettersMx4
import Derived.Test.YtkpddelnkjjflaaDoorKStepLettersMx5
import Derived.Test.YtkpddelnkjjflaaDoorKStepLettersMx7
import Derived.Test.YtkpddelnkjjflaaDoorKStepLettersMx10
import Derived.Test.YtkpddelnkjjflaaDoorKStepLettersMEval
import Derived.Test.YtkpddelnkjjflaaDoorKStepLettersMapIs
namespace Go.Proofs.YtkpddelnkjjflaaDoor.M
open Go.Proofs.YtkpddelnkjjflaaDoor.Al
open Go.World renaming block_lt_of_cell? → zB
open Nat renaming lt_of_lt_of_le → zS
open Option renaming bind_eq_some_iff → zb
open List renaming setIfInBounds_toArray → zX, set_cons_zero → zY, set_cons_succ → zZ, map_toArray → zx, map_cons → zy, map_nil → zz, length_drop → zd, length_take → zt
open Go.Proofs.YtkpddelnkjjflaaDoorW.PrintWords renaming pw_below_drewN → zC, below_alloc → zD, below_drew1 → zE, below_set → zF, below_size → zG, below_step → zH, blk_cell → zI, blk_frozen → zJ, blk_alloc → zK, blk_drewN → zL, blk_drew → zM, blk_below → zN, Kd.C_below → zT, gate_callee → zU, gate_dst → zV, box_event → zW
open Go.RowKit Go.Proofs.YtkpddelnkjjflaaDoorW.PrintWords Go.Proofs.YtkpddelnkjjflaaDoorW.PrintLast Go.Proofs.YtkpddelnkjjflaaDoorW.PrintMore
attribute [local go_sem] max2_int min2_int max_two min_two max_three min_three max_four min_four
set_option linter.unusedVariables false
set_option linter.unusedSimpArgs false
section
open Go.Proofs.YtkpddelnkjjflaaDoor.Hand
open Go.Proofs.YtkpddelnkjjflaaDoor.Pure (doVal pushS)
set_option maxRecDepth 100000
structure MachOK (w:World) (gm:Nat) (v:Value) (stk:List Int) (A:Option Addr) (c:Nat) (env:List Int):Prop where
 cells:w.heap[gm]? = some (.cells #[v,.slice A env.length c] 101 (0,0))
 own:Kd.R (Kd.int .i64) 3 w (gm + 1) (fun _=>True) v stk
 env:∀ W,Below gm w W → Kd.C (Kd.int .i64) W A env.length env
 len:stk.length ≤ 60
theorem pop_calls (gm:Nat) (v:Value) (s:List Int) (x:Int) (A:Option Addr) (c:Nat) (env:List Int) (w:World) (hM:MachOK w gm v (s ++ [x]) A c env) :
  Calls Tryd.prog 78 #[.pointer (some ⟨gm,0,none⟩)] w fun e w'=>e = .returned (.int .i64 x)∧∃ v',MachOK w' gm v' s A c env∧Below gm w w'∧w.grownBy w' (some gm):=by
 obtain ⟨hc,ho,he,hl⟩:=hM
 have hlen:(s ++ [x]).length = s.length + 1:=by simp
 rw [hlen] at hl
 obtain ⟨A1,c1,hv⟩:=Kd.R_slice ho
 rw [hlen] at hv
 subst hv
 obtain ⟨hn,hcap,hC⟩:=Kd.R_reads' ho
 obtain ⟨ad,ead,k1⟩:=Kd.at_int hC (s.length:Int) (by omega) (by omega)
 subst ead
 have hrd:rd (s ++ [x]) (s.length:Int) = x:=by simp [rd]
 rw [hrd,Int.toNat_natCast] at k1
 have k0:w.cell? ⟨gm,0,none⟩ = some (.slice (some ad) (s.length + 1) c1):=zI hc 0
 have z0:w.frozen? ⟨gm,0,none⟩ = false:=zJ hc 0
 have e1:IntKind.i64.wrap (((s.length + 1:Nat):Int) - 1) = (s.length:Int):=by rw [IntKind.wrap_i64];omega
 have e2:IntKind.i64.wrap (s.length:Int) = (s.length:Int):=by rw [IntKind.wrap_i64];omega
 have hq1:decide ((s.length:Int) < ((s.length + 1:Nat):Int)) = true:=zQ (by omega)
 have hp1:(0 ≤ (s.length:Int)) = True:=eq_true (by omega)
 obtain ⟨i0,hi0,hz0,hz1,hz2⟩:=info_parts info3
 have hcut:=cut_to (P:=Tryd.prog) 37 3 .i64 Tryd.underlying37 hi0 (some ad) (s.length + 1) c1 (s.length:Int) (by omega) (by omega) hcap
 rw [Int.toNat_natCast] at hcut
 clear hi0 hz0 hz1 hz2
 have HC:=zA hc
 have HO:=zA ho
 have HE:=zA he
 have HL:=zA hl
 clear hc ho he hC hl hn
 go_enter Tryd.func78,Tryd.ntmps78
 go_wp2
 go_region
 go_wp2
 go_region
 go_wp2
 go_ret
 have hb:Below gm w (w.setCell ⟨gm,0,none⟩ (.slice (some ad) s.length c1)).drew.drew:=((Below.refl gm w).setCell (Nat.le_refl _) _).drew.drew
 refine ⟨rfl,.slice (some ad) s.length c1,⟨?_,?_,fun W hW=>HE.out W (hb.trans hW),by have:=HL.out;omega⟩,hb,grownBy_drewN (grownBy_drewN (grownBy_set (World.grownBy.refl w _) 0 _) 1) 1⟩
 ·show (w.setCell ⟨gm,0,none⟩ (.slice (some ad) s.length c1)).heap[gm]? = _
  rw [blk_set HC.out]
  rfl
 ·have h:=Kd.R_take HO.out (show s.length ≤ (s ++ [x]).length by simp)
  rw [List.take_left' rfl] at h
  exact Kd.R_drew (Kd.R_drew (R_setb h (show gm < gm + 1 by omega) _))
section
variable (ga gb:Nat) (a b:Int) (w:World) (ha:w.heap[ga]? = some (.cells #[.int .i64 a] 3 (0,0))) (hb:w.heap[gb]? = some (.cells #[.int .i64 b] 3 (0,0)))
include ha hb
theorem do_add (h0:-1000000 ≤ a∧a ≤ 1000000) (h1:-1000000 ≤ b∧b ≤ 1000000):Calls Tryd.prog 93 #[.pointer (some ⟨ga,0,none⟩),.pointer (some ⟨gb,0,none⟩)] w fun e w'=>e = .returned (.int .i64 (a + b))∧w' = w:=by
 have k1:w.cell? ⟨ga,0,none⟩ = some (.int .i64 a):=zI ha 0
 have k2:w.cell? ⟨gb,0,none⟩ = some (.int .i64 b):=zI hb 0
 have e1:IntKind.i64.wrap (a + b) = a + b:=by rw [IntKind.wrap_i64];omega
 go_enter Tryd.func93,Tryd.ntmps93
 go_wp2
 go_ret
 exact ⟨rfl,rfl⟩
theorem do_sub (h0:-1000000 ≤ a∧a ≤ 1000000) (h1:-1000000 ≤ b∧b ≤ 1000000):Calls Tryd.prog 94 #[.pointer (some ⟨ga,0,none⟩),.pointer (some ⟨gb,0,none⟩)] w fun e w'=>e = .returned (.int .i64 (a - b))∧w' = w:=by
 have k1:w.cell? ⟨ga,0,none⟩ = some (.int .i64 a):=zI ha 0
 have k2:w.cell? ⟨gb,0,none⟩ = some (.int .i64 b):=zI hb 0
 have e1:IntKind.i64.wrap (a - b) = a - b:=by rw [IntKind.wrap_i64];omega
 go_enter Tryd.func94,Tryd.ntmps94
 go_wp2
 go_ret
 exact ⟨rfl,rfl⟩
theorem do_mul (h0:-1000000 ≤ a∧a ≤ 1000000) (h1:-1000000 ≤ b∧b ≤ 1000000):Calls Tryd.prog 95 #[.pointer (some ⟨ga,0,none⟩),.pointer (some ⟨gb,0,none⟩)] w fun e w'=>e = .returned (.int .i64 (a * b))∧w' = w:=by
 have k1:w.cell? ⟨ga,0,none⟩ = some (.int .i64 a):=zI ha 0
 have k2:w.cell? ⟨gb,0,none⟩ = some (.int .i64 b):=zI hb 0
 have hm:(a * b).natAbs ≤ 1000000 * 1000000:=by rw [Int.natAbs_mul];exact Nat.mul_le_mul (by omega) (by omega)
 have e1:IntKind.i64.wrap (a * b) = a * b:=by rw [IntKind.wrap_i64];omega
 clear hm
 go_enter Tryd.func95,Tryd.ntmps95
 go_wp2
 go_ret
 exact ⟨rfl,rfl⟩
theorem do_eq:Calls Tryd.prog 96 #[.pointer (some ⟨ga,0,none⟩),.pointer (some ⟨gb,0,none⟩)] w fun e w'=>e = .returned (.int .i64 (if a = b then 1 else 0))∧w' = w:=by
 have k1:w.cell? ⟨ga,0,none⟩ = some (.int .i64 a):=zI ha 0
 have k2:w.cell? ⟨gb,0,none⟩ = some (.int .i64 b):=zI hb 0
 by_cases h:a = b
 ·have hq:(a == b) = true:=beq_iff_eq.2 h
  rw [if_pos h]
  clear h
  go_enter Tryd.func96,Tryd.ntmps96
  go_wp2
  go_ret
  exact ⟨rfl,rfl⟩
 ·have hq:(a == b) = false:=beq_eq_false_iff_ne.2 h
  rw [if_neg h]
  go_enter Tryd.func96,Tryd.ntmps96
  go_wp2
  go_ret
  exact ⟨rfl,rfl⟩
theorem do_lt:Calls Tryd.prog 98 #[.pointer (some ⟨ga,0,none⟩),.pointer (some ⟨gb,0,none⟩)] w fun e w'=>e = .returned (.int .i64 (if a < b then 1 else 0))∧w' = w:=by
 have k1:w.cell? ⟨ga,0,none⟩ = some (.int .i64 a):=zI ha 0
 have k2:w.cell? ⟨gb,0,none⟩ = some (.int .i64 b):=zI hb 0
 by_cases h:a < b
 ·have hq:decide (a < b) = true:=zQ h
  rw [if_pos h]
  go_enter Tryd.func98,Tryd.ntmps98
  go_wp2
  go_ret
  exact ⟨rfl,rfl⟩
 ·have hq:decide (a < b) = false:=zR h
  rw [if_neg h]
  go_enter Tryd.func98,Tryd.ntmps98
  go_wp2
  go_ret
  exact ⟨rfl,rfl⟩
theorem do_and:Calls Tryd.prog 99 #[.pointer (some ⟨ga,0,none⟩),.pointer (some ⟨gb,0,none⟩)] w fun e w'=>e = .returned (.int .i64 (Go.bits .and .i64 a b))∧w' = w:=by
 have k1:w.cell? ⟨ga,0,none⟩ = some (.int .i64 a):=zI ha 0
 have k2:w.cell? ⟨gb,0,none⟩ = some (.int .i64 b):=zI hb 0
 go_enter Tryd.func99,Tryd.ntmps99
 go_wp2
 go_ret
 exact ⟨rfl,rfl⟩
theorem do_or:Calls Tryd.prog 100 #[.pointer (some ⟨ga,0,none⟩),.pointer (some ⟨gb,0,none⟩)] w fun e w'=>e = .returned (.int .i64 (Go.bits .or .i64 a b))∧w' = w:=by
 have k1:w.cell? ⟨ga,0,none⟩ = some (.int .i64 a):=zI ha 0
 have k2:w.cell? ⟨gb,0,none⟩ = some (.int .i64 b):=zI hb 0
 go_enter Tryd.func100,Tryd.ntmps100
 go_wp2
 go_ret
 exact ⟨rfl,rfl⟩
end
def cloN (kd:Int):Nat:=if kd = 3 then 93 else if kd = 4 then 94 else if kd = 5 then 95 else if kd = 6 then 96 else if kd = 7 then 98 else if kd = 8 then 99 else 100
theorem clo_calls (kd:Int) (hk:3 ≤ kd∧kd ≤ 9) (ga gb:Nat) (a b:Int) (w:World) (ha:w.heap[ga]? = some (.cells #[.int .i64 a] 3 (0,0))) (hb:w.heap[gb]? = some (.cells #[.int .i64 b] 3 (0,0)))
  (h0:-1000000 ≤ a∧a ≤ 1000000) (h1:-1000000 ≤ b∧b ≤ 1000000):Calls Tryd.prog (cloN kd) #[.pointer (some ⟨ga,0,none⟩),.pointer (some ⟨gb,0,none⟩)] w fun e w'=>e = .returned (.int .i64 (doVal kd a b))∧w' = w:=by
 have:kd = 3 ∨ kd = 4 ∨ kd = 5 ∨ kd = 6 ∨ kd = 7 ∨ kd = 8 ∨ kd = 9:=by omega
 rcases this with e|e|e|e|e|e|e <;> subst e
 ·exact do_add ga gb a b w ha hb h0 h1
 ·exact do_sub ga gb a b w ha hb h0 h1
 ·exact do_mul ga gb a b w ha hb h0 h1
 ·exact do_eq ga gb a b w ha hb
 ·exact do_lt ga gb a b w ha hb
 ·exact do_and ga gb a b w ha hb
 ·exact do_or ga gb a b w ha hb
def DoPost (n:Int) (s:List Int) (gm:Nat) (A:Option Addr) (c:Nat) (env:List Int) (w:World) (e:Ending) (w':World):Prop :=
 Below gm w w'∧match pushS n s with
  | .error cc=>e = .panicked [{ v:=.iface 27 (.int .i64 cc),recovered:=false }]
  | .ok s'=>e = .returned (.tuple #[])∧∃ v',MachOK w' gm v' s' A c env
theorem MachOK.mono {w w':World} {gm:Nat} {v:Value} {stk:List Int} {A:Option Addr} {c:Nat} {env:List Int} (h:MachOK w gm v stk A c env) (hb:Below w.heap.size w w'):MachOK w' gm v stk A c env :=
 ⟨(hb.block gm (blk_lt h.cells)).trans h.cells,Kd.R_below h.own hb,fun W hW=>h.env W (((hb.mono (Nat.le_of_lt (blk_lt h.cells)))).trans hW),h.len⟩
theorem MachOK.pushed {w w1:World} {gm:Nat} {v v1:Value} {stk:List Int} {n:Int} {A:Option Addr} {c:Nat} {env:List Int} (h:MachOK w gm v stk A c env) (hl:stk.length < 60) (ho:Kd.R (Kd.int .i64) 3 w1 (gm + 1) (fun _=>True) v1 (stk ++ [n])) (hb:Below (gm + 1) w w1) :
  MachOK (w1.setCell ⟨gm,0,none⟩ v1) gm v1 (stk ++ [n]) A c env:=by
 have hg:w1.heap[gm]? = some (.cells #[v,.slice A env.length c] 101 (0,0)):=(hb.block gm (by omega)).trans h.cells
 refine ⟨?_,R_setb ho (show gm < gm + 1 by omega) _,fun W hW=>h.env W (((hb.mono (Nat.le_succ gm)).setCell (p:=⟨gm,0,none⟩) (Nat.le_refl _) _).trans hW),by simp;omega⟩
 rw [blk_set hg]
 rfl
set_option maxHeartbeats 2000000 in
theorem do_num (gm:Nat) (v:Value) (s:List Int) (A:Option Addr) (c:Nat) (env:List Int) (o:S94) (hk:o.f0 = 1) (w0:World) (hl:s.length < 60) (hM0:MachOK w0 gm v (s) A c env) :
  Calls Tryd.prog 77 #[.pointer (some ⟨gm,0,none⟩),.agg #[.int .i64 o.f0,.int .i64 o.f1]] w0 (DoPost (o.f1) s gm A c env w0):=by
 have kb1:(o.f0 == 1) = true:=beq_iff_eq.2 hk
 obtain ⟨A1,c1,ev⟩:=Kd.R_slice hM0.own
 subst ev
 have HM0:=zA hM0
 have HL:=zA hl
 clear hM0 hl hk
 by_cases h1:o.f1 < -1000000
 ·have q1:decide (o.f1 < -1000000) = true:=zQ h1
  have HP:=zA (show pushS (o.f1) s = .error 8 by unfold pushS;rw [if_pos (.inl h1)])
  go_enter Tryd.func77,Tryd.ntmps77
  go_wp2_with (first|((with_reducible refine zV (N:=3) rfl ?_);refine zW ?hg (N:=3) ?hd (cs:=#[.int .i64 o.f0,.int .i64 o.f1]) (t:=94) ?hr ?_;(case hd=>rfl);(case hg=>rfl);(case hr=>first|(go_simp;done)|(go_simp;rfl));intro gb hg w hbox hb;have HM:=zA (HM0.out.mono hb);have HBW:=zA (hb.mono (Nat.le_of_lt (blk_lt HM0.out.cells)));have HZ:=zA (show gm + 1 ≤ w.heap.size from blk_lt HM.out.cells);have k0:w.cell? ⟨gb,0,none⟩ = some (.int .i64 o.f0):=zI hbox 0;have k1:w.cell? ⟨gb,1,none⟩ = some (.int .i64 o.f1):=zI hbox 1;have c0:w.cell? ⟨gm,0,none⟩ = some (.slice A1 (s).length c1):=zI HM.out.cells 0;clear hb hbox hg))
  exact ⟨rfl,by unfold DoPost;exact ⟨HBW.out,by rw [HP.out]⟩⟩
 have q1:decide (o.f1 < -1000000) = false:=zR h1
 by_cases h2:o.f1 > 1000000
 ·have q2:decide (o.f1 > 1000000) = true:=zQ h2
  have HP:=zA (show pushS (o.f1) s = .error 8 by unfold pushS;rw [if_pos (.inr h2)])
  go_enter Tryd.func77,Tryd.ntmps77
  go_wp2_with (first|((with_reducible refine zV (N:=3) rfl ?_);refine zW ?hg (N:=3) ?hd (cs:=#[.int .i64 o.f0,.int .i64 o.f1]) (t:=94) ?hr ?_;(case hd=>rfl);(case hg=>rfl);(case hr=>first|(go_simp;done)|(go_simp;rfl));intro gb hg w hbox hb;have HM:=zA (HM0.out.mono hb);have HBW:=zA (hb.mono (Nat.le_of_lt (blk_lt HM0.out.cells)));have HZ:=zA (show gm + 1 ≤ w.heap.size from blk_lt HM.out.cells);have k0:w.cell? ⟨gb,0,none⟩ = some (.int .i64 o.f0):=zI hbox 0;have k1:w.cell? ⟨gb,1,none⟩ = some (.int .i64 o.f1):=zI hbox 1;have c0:w.cell? ⟨gm,0,none⟩ = some (.slice A1 (s).length c1):=zI HM.out.cells 0;clear hb hbox hg))
  exact ⟨rfl,by unfold DoPost;exact ⟨HBW.out,by rw [HP.out]⟩⟩
 have q2:decide (o.f1 > 1000000) = false:=zR h2
 have HP:=zA (show pushS (o.f1) s = .ok (s ++ [o.f1]) by unfold pushS;rw [if_neg (by omega)])
 go_enter Tryd.func77,Tryd.ntmps77
 go_wp2_with (first|((with_reducible refine zV (N:=3) rfl ?_);refine zW ?hg (N:=3) ?hd (cs:=#[.int .i64 o.f0,.int .i64 o.f1]) (t:=94) ?hr ?_;(case hd=>rfl);(case hg=>rfl);(case hr=>first|(go_simp;done)|(go_simp;rfl));intro gb hg w hbox hb;have HM:=zA (HM0.out.mono hb);have HBW:=zA (hb.mono (Nat.le_of_lt (blk_lt HM0.out.cells)));have HZ:=zA (show gm + 1 ≤ w.heap.size from blk_lt HM.out.cells);have k0:w.cell? ⟨gb,0,none⟩ = some (.int .i64 o.f0):=zI hbox 0;have k1:w.cell? ⟨gb,1,none⟩ = some (.int .i64 o.f1):=zI hbox 1;have c0:w.cell? ⟨gm,0,none⟩ = some (.slice A1 (s).length c1):=zI HM.out.cells 0;clear hb hbox hg)|(at_builtin;refine Kd.R_append (Kd.int .i64) (gm + 1) rfl (.tmp 60) (.tmp 62) 37 3 (.int .i64 0) 8 rfl Tryd.underlying37 info3 rfl (by decide) (by decide) (.slice A1 (s).length c1) (s) (o.f1) [.int .i64 (o.f1)] (fun _=>True) (fun _=>False) rfl rfl ?aP (fun _ h=>h.elim) (fun _ _=>trivial) ?aO (Below.refl _ _) ?aB ?aL ?_;(case aP=>rfl);(case aO=>exact HM.out.own);(case aB=>exact HZ.out);(case aL=>have:=HL.out;omega);intro v1 w1 ho hb hg hat;obtain ⟨A2,c2,e2⟩:=Kd.R_slice ho;subst e2;have HO1:=zA ho;have HB1:=zA hb;have kc:w1.cell? ⟨gm,0,none⟩ = some (.slice A1 (s).length c1):=zI ((hb.block gm (Nat.lt_succ_self gm)).trans HM.out.cells) 0;have kz:w1.frozen? ⟨gm,0,none⟩ = false:=zJ ((hb.block gm (Nat.lt_succ_self gm)).trans HM.out.cells) 0;clear ho hb hg hat))
 go_end0
 have ho:=HO1.out
 rw [show ((s) ++ [o.f1]).length = (s).length + 1 by simp] at ho
 have hb:=HBW.out.trans ((HB1.out.mono (Nat.le_succ gm)).setCell (p:=⟨gm,0,none⟩) (Nat.le_refl _) (.slice A2 ((s).length + 1) c2))
 unfold DoPost
 exact ⟨hb,by rw [HP.out];exact ⟨rfl,_,HM.out.pushed HL.out ho HB1.out⟩⟩
set_option maxHeartbeats 2000000 in
theorem do_not (gm:Nat) (v:Value) (s:List Int) (x:Int) (A:Option Addr) (c:Nat) (env:List Int) (o:S94) (hk:o.f0 = 10) (hx:-1000000 ≤ x∧x ≤ 1000000) (w0:World) (hl:s.length < 60) (hM0:MachOK w0 gm v (s ++ [x]) A c env) :
  Calls Tryd.prog 77 #[.pointer (some ⟨gm,0,none⟩),.agg #[.int .i64 o.f0,.int .i64 o.f1]] w0 (DoPost (1 - x) s gm A c env w0):=by
 have kb1:(o.f0 == 1) = false:=by rw [beq_eq_false_iff_ne];omega
 have kb2:(o.f0 == 2) = false:=by rw [beq_eq_false_iff_ne];omega
 have kb11:(o.f0 == 11) = false:=by rw [beq_eq_false_iff_ne];omega
 have kb12:(o.f0 == 12) = false:=by rw [beq_eq_false_iff_ne];omega
 have kb10:(o.f0 == 10) = true:=beq_iff_eq.2 hk
 obtain ⟨A1,c1,ev⟩:=Kd.R_slice hM0.own
 subst ev
 have HM0:=zA hM0
 have HL:=zA hl
 have e1:IntKind.i64.wrap (1 - x) = 1 - x:=by rw [IntKind.wrap_i64];omega
 clear hM0 hl hk
 have h1:¬ (1 - x < -1000000):=by omega
 have q1:decide (1 - x < -1000000) = false:=zR h1
 by_cases h2:1 - x > 1000000
 ·have q2:decide (1 - x > 1000000) = true:=zQ h2
  have HP:=zA (show pushS (1 - x) s = .error 8 by unfold pushS;rw [if_pos (.inr h2)])
  go_enter Tryd.func77,Tryd.ntmps77
  go_wp2_with (first|((with_reducible refine zV (N:=3) rfl ?_);refine zW ?hg (N:=3) ?hd (cs:=#[.int .i64 o.f0,.int .i64 o.f1]) (t:=94) ?hr ?_;(case hd=>rfl);(case hg=>rfl);(case hr=>first|(go_simp;done)|(go_simp;rfl));intro gb hg w hbox hb;have HM:=zA (HM0.out.mono hb);have HBP1:=zA (hb.mono (Nat.le_of_lt (blk_lt HM0.out.cells)));have HZ:=zA (show gm + 1 ≤ w.heap.size from blk_lt HM.out.cells);have k0:w.cell? ⟨gb,0,none⟩ = some (.int .i64 o.f0):=zI hbox 0;have k1:w.cell? ⟨gb,1,none⟩ = some (.int .i64 o.f1):=zI hbox 1;have c0:w.cell? ⟨gm,0,none⟩ = some (.slice A1 (s ++ [x]).length c1):=zI HM.out.cells 0;clear hb hbox hg)|(go_at_call 78;(with_reducible refine (pop_calls gm _ (s) x A c env _ HM.out).mono ?_);rintro e wp1 ⟨rfl,vp1,hmp,hbp,hgp⟩;obtain ⟨Ap1,cp1,evp⟩:=Kd.R_slice hmp.own;subst evp;have HMP1:=zA hmp;have HBP1:=zA (HBP1.out.trans hbp);have HZP1:=zA (show gm + 1 ≤ wp1.heap.size from blk_lt hmp.cells);have c0p1:wp1.cell? ⟨gm,0,none⟩ = some (.slice Ap1 (s).length cp1):=zI hmp.cells 0;clear hmp hbp hgp))
  exact ⟨rfl,by unfold DoPost;exact ⟨HBP1.out,by rw [HP.out]⟩⟩
 have q2:decide (1 - x > 1000000) = false:=zR h2
 have HP:=zA (show pushS (1 - x) s = .ok (s ++ [1 - x]) by unfold pushS;rw [if_neg (by omega)])
 go_enter Tryd.func77,Tryd.ntmps77
 go_wp2_with (first|((with_reducible refine zV (N:=3) rfl ?_);refine zW ?hg (N:=3) ?hd (cs:=#[.int .i64 o.f0,.int .i64 o.f1]) (t:=94) ?hr ?_;(case hd=>rfl);(case hg=>rfl);(case hr=>first|(go_simp;done)|(go_simp;rfl));intro gb hg w hbox hb;have HM:=zA (HM0.out.mono hb);have HBW:=zA (hb.mono (Nat.le_of_lt (blk_lt HM0.out.cells)));have HZ:=zA (show gm + 1 ≤ w.heap.size from blk_lt HM.out.cells);have k0:w.cell? ⟨gb,0,none⟩ = some (.int .i64 o.f0):=zI hbox 0;have k1:w.cell? ⟨gb,1,none⟩ = some (.int .i64 o.f1):=zI hbox 1;have c0:w.cell? ⟨gm,0,none⟩ = some (.slice A1 (s ++ [x]).length c1):=zI HM.out.cells 0;clear hb hbox hg)|(go_at_call 78;(with_reducible refine (pop_calls gm _ (s) x A c env _ HM.out).mono ?_);rintro e wp1 ⟨rfl,vp1,hmp,hbp,hgp⟩;obtain ⟨Ap1,cp1,evp⟩:=Kd.R_slice hmp.own;subst evp;have HMP1:=zA hmp;have HBP1:=zA (HBW.out.trans hbp);have HZP1:=zA (show gm + 1 ≤ wp1.heap.size from blk_lt hmp.cells);have c0p1:wp1.cell? ⟨gm,0,none⟩ = some (.slice Ap1 (s).length cp1):=zI hmp.cells 0;clear hmp hbp hgp)|(at_builtin;refine Kd.R_append (Kd.int .i64) (gm + 1) rfl (.tmp 60) (.tmp 62) 37 3 (.int .i64 0) 8 rfl Tryd.underlying37 info3 rfl (by decide) (by decide) (.slice Ap1 (s).length cp1) (s) (1 - x) [.int .i64 (1 - x)] (fun _=>True) (fun _=>False) rfl rfl ?aP (fun _ h=>h.elim) (fun _ _=>trivial) ?aO (Below.refl _ _) ?aB ?aL ?_;(case aP=>rfl);(case aO=>exact HMP1.out.own);(case aB=>exact HZP1.out);(case aL=>have:=HL.out;omega);intro v1 w1 ho hb hg hat;obtain ⟨A2,c2,e2⟩:=Kd.R_slice ho;subst e2;have HO1:=zA ho;have HB1:=zA hb;have kc:w1.cell? ⟨gm,0,none⟩ = some (.slice Ap1 (s).length cp1):=zI ((hb.block gm (Nat.lt_succ_self gm)).trans HMP1.out.cells) 0;have kz:w1.frozen? ⟨gm,0,none⟩ = false:=zJ ((hb.block gm (Nat.lt_succ_self gm)).trans HMP1.out.cells) 0;clear ho hb hg hat))
 go_end0
 have ho:=HO1.out
 rw [show ((s) ++ [1 - x]).length = (s).length + 1 by simp] at ho
 have hb:=HBP1.out.trans ((HB1.out.mono (Nat.le_succ gm)).setCell (p:=⟨gm,0,none⟩) (Nat.le_refl _) (.slice A2 ((s).length + 1) c2))
 unfold DoPost
 exact ⟨hb,by rw [HP.out];exact ⟨rfl,_,HMP1.out.pushed HL.out ho HB1.out⟩⟩
set_option maxHeartbeats 2000000 in
theorem do_yes (gm:Nat) (v:Value) (s:List Int) (A:Option Addr) (c:Nat) (env:List Int) (o:S94) (hk:o.f0 = 11) (w0:World) (hl:s.length < 60) (hM0:MachOK w0 gm v (s) A c env) :
  Calls Tryd.prog 77 #[.pointer (some ⟨gm,0,none⟩),.agg #[.int .i64 o.f0,.int .i64 o.f1]] w0 (DoPost ((1:Int)) s gm A c env w0):=by
 have kb1:(o.f0 == 1) = false:=by rw [beq_eq_false_iff_ne];omega
 have kb2:(o.f0 == 2) = false:=by rw [beq_eq_false_iff_ne];omega
 have kb11:(o.f0 == 11) = true:=beq_iff_eq.2 hk
 obtain ⟨A1,c1,ev⟩:=Kd.R_slice hM0.own
 subst ev
 have HM0:=zA hM0
 have HL:=zA hl
 clear hM0 hl hk
 have h1:¬ ((1:Int) < -1000000):=by omega
 have q1:decide ((1:Int) < -1000000) = false:=zR h1
 have h2:¬ ((1:Int) > 1000000):=by omega
 have q2:decide ((1:Int) > 1000000) = false:=zR h2
 have HP:=zA (show pushS ((1:Int)) s = .ok (s ++ [(1:Int)]) by unfold pushS;rw [if_neg (by omega)])
 go_enter Tryd.func77,Tryd.ntmps77
 go_wp2_with (first|((with_reducible refine zV (N:=3) rfl ?_);refine zW ?hg (N:=3) ?hd (cs:=#[.int .i64 o.f0,.int .i64 o.f1]) (t:=94) ?hr ?_;(case hd=>rfl);(case hg=>rfl);(case hr=>first|(go_simp;done)|(go_simp;rfl));intro gb hg w hbox hb;have HM:=zA (HM0.out.mono hb);have HBW:=zA (hb.mono (Nat.le_of_lt (blk_lt HM0.out.cells)));have HZ:=zA (show gm + 1 ≤ w.heap.size from blk_lt HM.out.cells);have k0:w.cell? ⟨gb,0,none⟩ = some (.int .i64 o.f0):=zI hbox 0;have k1:w.cell? ⟨gb,1,none⟩ = some (.int .i64 o.f1):=zI hbox 1;have c0:w.cell? ⟨gm,0,none⟩ = some (.slice A1 (s).length c1):=zI HM.out.cells 0;clear hb hbox hg)|(at_builtin;refine Kd.R_append (Kd.int .i64) (gm + 1) rfl (.tmp 60) (.tmp 62) 37 3 (.int .i64 0) 8 rfl Tryd.underlying37 info3 rfl (by decide) (by decide) (.slice A1 (s).length c1) (s) ((1:Int)) [.int .i64 ((1:Int))] (fun _=>True) (fun _=>False) rfl rfl ?aP (fun _ h=>h.elim) (fun _ _=>trivial) ?aO (Below.refl _ _) ?aB ?aL ?_;(case aP=>rfl);(case aO=>exact HM.out.own);(case aB=>exact HZ.out);(case aL=>have:=HL.out;omega);intro v1 w1 ho hb hg hat;obtain ⟨A2,c2,e2⟩:=Kd.R_slice ho;subst e2;have HO1:=zA ho;have HB1:=zA hb;have kc:w1.cell? ⟨gm,0,none⟩ = some (.slice A1 (s).length c1):=zI ((hb.block gm (Nat.lt_succ_self gm)).trans HM.out.cells) 0;have kz:w1.frozen? ⟨gm,0,none⟩ = false:=zJ ((hb.block gm (Nat.lt_succ_self gm)).trans HM.out.cells) 0;clear ho hb hg hat))
 go_end0
 have ho:=HO1.out
 rw [show ((s) ++ [(1:Int)]).length = (s).length + 1 by simp] at ho
 have hb:=HBW.out.trans ((HB1.out.mono (Nat.le_succ gm)).setCell (p:=⟨gm,0,none⟩) (Nat.le_refl _) (.slice A2 ((s).length + 1) c2))
 unfold DoPost
 exact ⟨hb,by rw [HP.out];exact ⟨rfl,_,HM.out.pushed HL.out ho HB1.out⟩⟩
set_option maxHeartbeats 2000000 in
theorem do_no (gm:Nat) (v:Value) (s:List Int) (A:Option Addr) (c:Nat) (env:List Int) (o:S94) (hk:o.f0 = 12) (w0:World) (hl:s.length < 60) (hM0:MachOK w0 gm v (s) A c env) :
  Calls Tryd.prog 77 #[.pointer (some ⟨gm,0,none⟩),.agg #[.int .i64 o.f0,.int .i64 o.f1]] w0 (DoPost ((0:Int)) s gm A c env w0):=by
 have kb1:(o.f0 == 1) = false:=by rw [beq_eq_false_iff_ne];omega
 have kb2:(o.f0 == 2) = false:=by rw [beq_eq_false_iff_ne];omega
 have kb11:(o.f0 == 11) = false:=by rw [beq_eq_false_iff_ne];omega
 have kb12:(o.f0 == 12) = true:=beq_iff_eq.2 hk
 obtain ⟨A1,c1,ev⟩:=Kd.R_slice hM0.own
 subst ev
 have HM0:=zA hM0
 have HL:=zA hl
 clear hM0 hl hk
 have h1:¬ ((0:Int) < -1000000):=by omega
 have q1:decide ((0:Int) < -1000000) = false:=zR h1
 have h2:¬ ((0:Int) > 1000000):=by omega
 have q2:decide ((0:Int) > 1000000) = false:=zR h2
 have HP:=zA (show pushS ((0:Int)) s = .ok (s ++ [(0:Int)]) by unfold pushS;rw [if_neg (by omega)])
 go_enter Tryd.func77,Tryd.ntmps77
 go_wp2_with (first|((with_reducible refine zV (N:=3) rfl ?_);refine zW ?hg (N:=3) ?hd (cs:=#[.int .i64 o.f0,.int .i64 o.f1]) (t:=94) ?hr ?_;(case hd=>rfl);(case hg=>rfl);(case hr=>first|(go_simp;done)|(go_simp;rfl));intro gb hg w hbox hb;have HM:=zA (HM0.out.mono hb);have HBW:=zA (hb.mono (Nat.le_of_lt (blk_lt HM0.out.cells)));have HZ:=zA (show gm + 1 ≤ w.heap.size from blk_lt HM.out.cells);have k0:w.cell? ⟨gb,0,none⟩ = some (.int .i64 o.f0):=zI hbox 0;have k1:w.cell? ⟨gb,1,none⟩ = some (.int .i64 o.f1):=zI hbox 1;have c0:w.cell? ⟨gm,0,none⟩ = some (.slice A1 (s).length c1):=zI HM.out.cells 0;clear hb hbox hg)|(at_builtin;refine Kd.R_append (Kd.int .i64) (gm + 1) rfl (.tmp 60) (.tmp 62) 37 3 (.int .i64 0) 8 rfl Tryd.underlying37 info3 rfl (by decide) (by decide) (.slice A1 (s).length c1) (s) ((0:Int)) [.int .i64 ((0:Int))] (fun _=>True) (fun _=>False) rfl rfl ?aP (fun _ h=>h.elim) (fun _ _=>trivial) ?aO (Below.refl _ _) ?aB ?aL ?_;(case aP=>rfl);(case aO=>exact HM.out.own);(case aB=>exact HZ.out);(case aL=>have:=HL.out;omega);intro v1 w1 ho hb hg hat;obtain ⟨A2,c2,e2⟩:=Kd.R_slice ho;subst e2;have HO1:=zA ho;have HB1:=zA hb;have kc:w1.cell? ⟨gm,0,none⟩ = some (.slice A1 (s).length c1):=zI ((hb.block gm (Nat.lt_succ_self gm)).trans HM.out.cells) 0;have kz:w1.frozen? ⟨gm,0,none⟩ = false:=zJ ((hb.block gm (Nat.lt_succ_self gm)).trans HM.out.cells) 0;clear ho hb hg hat))
 go_end0
 have ho:=HO1.out
 rw [show ((s) ++ [(0:Int)]).length = (s).length + 1 by simp] at ho
 have hb:=HBW.out.trans ((HB1.out.mono (Nat.le_succ gm)).setCell (p:=⟨gm,0,none⟩) (Nat.le_refl _) (.slice A2 ((s).length + 1) c2))
 unfold DoPost
 exact ⟨hb,by rw [HP.out];exact ⟨rfl,_,HM.out.pushed HL.out ho HB1.out⟩⟩
theorem MachOK.drew {w:World} {gm:Nat} {v:Value} {stk:List Int} {A:Option Addr} {c:Nat} {env:List Int} (h:MachOK w gm v stk A c env):MachOK w.drew gm v stk A c env :=
 ⟨h.cells,Kd.R_drew h.own,fun W hW=>h.env W ((Below.refl gm w).drew.trans hW),h.len⟩
set_option maxHeartbeats 2000000 in
theorem do_var (gm:Nat) (v:Value) (s:List Int) (A:Option Addr) (c:Nat) (env:List Int) (o:S94) (hk:o.f0 = 2) (n:Int) (hj0:0 ≤ o.f1) (hj1:o.f1 < (env.length:Int)) (hm:env.length ≤ 9223372036854775807) (hn:rd env o.f1 = n) (w0:World) (hl:s.length < 60) (hM0:MachOK w0 gm v s A c env) :
  Calls Tryd.prog 77 #[.pointer (some ⟨gm,0,none⟩),.agg #[.int .i64 o.f0,.int .i64 o.f1]] w0 (DoPost n s gm A c env w0):=by
 have kb1:(o.f0 == 1) = false:=by rw [beq_eq_false_iff_ne];omega
 have kb2:(o.f0 == 2) = true:=beq_iff_eq.2 hk
 obtain ⟨A1,c1,ev⟩:=Kd.R_slice hM0.own
 subst ev
 obtain ⟨j,hj⟩:∃ j:Nat,o.f1 = (j:Int):=⟨o.f1.toNat,by omega⟩
 obtain ⟨ad,ea,_⟩:=Kd.at_int (hM0.env w0 (Below.refl _ _)) (j:Int) (by omega) (by omega)
 subst ea
 have hrd:rd env (j:Int) = n:=by rw [← hj];exact hn
 have hp2:(0 ≤ (j:Int)) = True:=eq_true (by omega)
 have hq2:((j:Int) < (env.length:Int)) = True:=eq_true (by omega)
 have hjl:j < env.length:=by omega
 have HM0:=zA hM0
 have HL:=zA hl
 rw [hj]
 clear hM0 hl hk hn hj0 hj1 hj
 by_cases h1:n < -1000000
 ·have q1:decide (n < -1000000) = true:=zQ h1
  have HP:=zA (show pushS n s = .error 8 by unfold pushS;rw [if_pos (.inl h1)])
  go_enter Tryd.func77,Tryd.ntmps77
  go_wp2_with (first|((with_reducible refine zV (N:=3) rfl ?_);refine zW ?hg (N:=3) ?hd (cs:=#[.int .i64 o.f0,.int .i64 (j:Int)]) (t:=94) ?hr ?_;(case hd=>rfl);(case hg=>rfl);(case hr=>first|(go_simp;done)|(go_simp;rfl));intro gb hg w hbox hb;have HM:=zA (HM0.out.mono hb);have HBW:=zA (hb.mono (Nat.le_of_lt (blk_lt HM0.out.cells)));have HZ:=zA (show gm + 1 ≤ w.heap.size from blk_lt HM.out.cells);have k0:w.cell? ⟨gb,0,none⟩ = some (.int .i64 o.f0):=zI hbox 0;have k1:w.cell? ⟨gb,1,none⟩ = some (.int .i64 (j:Int)):=zI hbox 1;have c0:w.cell? ⟨gm,0,none⟩ = some (.slice A1 (s).length c1):=zI HM.out.cells 0;have ce:w.cell? ⟨gm,1,none⟩ = some (.slice (some ad) env.length c):=zI HM.out.cells 1;have cv:w.cell? (ad.add j) = some (.int .i64 n):=by { have:=(Kd.at_int (HM.out.env w (Below.refl _ _)) (j:Int) (by omega) (by omega));obtain ⟨ad',e',k'⟩:=this;cases e';rw [hrd,Int.toNat_natCast] at k';exact k' };have HMP1:=zA HM.out.drew;have HBP1:=zA HBW.out.drew;have HZP1:=zA (show gm + 1 ≤ w.drew.heap.size from blk_lt HM.out.cells);clear hb hbox hg))
  clear hp2 hq2
  have hp2:(0 ≤ (j:Int)) = True:=eq_true (by omega)
  have hq2:((j:Int) < (env.length:Int)) = True:=eq_true (by omega)
  have hd2:decide (j < env.length) = true:=zQ hjl
  go_region
  have c0d:w.drew.cell? ⟨gm,0,none⟩ = some (.slice A1 s.length c1):=c0
  obtain ⟨w2,hw2⟩:∃ w2,w2 = w.drew:=⟨_,rfl⟩
  rw [← hw2] at HMP1 HBP1 HZP1 c0d ⊢
  clear hw2 c0 ce cv
  go_wp2_with (first|fail)
  exact ⟨rfl,by unfold DoPost;exact ⟨HBP1.out,by rw [HP.out]⟩⟩
 have q1:decide (n < -1000000) = false:=zR h1
 by_cases h2:n > 1000000
 ·have q2:decide (n > 1000000) = true:=zQ h2
  have HP:=zA (show pushS n s = .error 8 by unfold pushS;rw [if_pos (.inr h2)])
  go_enter Tryd.func77,Tryd.ntmps77
  go_wp2_with (first|((with_reducible refine zV (N:=3) rfl ?_);refine zW ?hg (N:=3) ?hd (cs:=#[.int .i64 o.f0,.int .i64 (j:Int)]) (t:=94) ?hr ?_;(case hd=>rfl);(case hg=>rfl);(case hr=>first|(go_simp;done)|(go_simp;rfl));intro gb hg w hbox hb;have HM:=zA (HM0.out.mono hb);have HBW:=zA (hb.mono (Nat.le_of_lt (blk_lt HM0.out.cells)));have HZ:=zA (show gm + 1 ≤ w.heap.size from blk_lt HM.out.cells);have k0:w.cell? ⟨gb,0,none⟩ = some (.int .i64 o.f0):=zI hbox 0;have k1:w.cell? ⟨gb,1,none⟩ = some (.int .i64 (j:Int)):=zI hbox 1;have c0:w.cell? ⟨gm,0,none⟩ = some (.slice A1 (s).length c1):=zI HM.out.cells 0;have ce:w.cell? ⟨gm,1,none⟩ = some (.slice (some ad) env.length c):=zI HM.out.cells 1;have cv:w.cell? (ad.add j) = some (.int .i64 n):=by { have:=(Kd.at_int (HM.out.env w (Below.refl _ _)) (j:Int) (by omega) (by omega));obtain ⟨ad',e',k'⟩:=this;cases e';rw [hrd,Int.toNat_natCast] at k';exact k' };have HMP1:=zA HM.out.drew;have HBP1:=zA HBW.out.drew;have HZP1:=zA (show gm + 1 ≤ w.drew.heap.size from blk_lt HM.out.cells);clear hb hbox hg))
  clear hp2 hq2
  have hp2:(0 ≤ (j:Int)) = True:=eq_true (by omega)
  have hq2:((j:Int) < (env.length:Int)) = True:=eq_true (by omega)
  have hd2:decide (j < env.length) = true:=zQ hjl
  go_region
  have c0d:w.drew.cell? ⟨gm,0,none⟩ = some (.slice A1 s.length c1):=c0
  obtain ⟨w2,hw2⟩:∃ w2,w2 = w.drew:=⟨_,rfl⟩
  rw [← hw2] at HMP1 HBP1 HZP1 c0d ⊢
  clear hw2 c0 ce cv
  go_wp2_with (first|fail)
  exact ⟨rfl,by unfold DoPost;exact ⟨HBP1.out,by rw [HP.out]⟩⟩
 have q2:decide (n > 1000000) = false:=zR h2
 have HP:=zA (show pushS n s = .ok (s ++ [n]) by unfold pushS;rw [if_neg (by omega)])
 go_enter Tryd.func77,Tryd.ntmps77
 go_wp2_with (first|((with_reducible refine zV (N:=3) rfl ?_);refine zW ?hg (N:=3) ?hd (cs:=#[.int .i64 o.f0,.int .i64 (j:Int)]) (t:=94) ?hr ?_;(case hd=>rfl);(case hg=>rfl);(case hr=>first|(go_simp;done)|(go_simp;rfl));intro gb hg w hbox hb;have HM:=zA (HM0.out.mono hb);have HBW:=zA (hb.mono (Nat.le_of_lt (blk_lt HM0.out.cells)));have HZ:=zA (show gm + 1 ≤ w.heap.size from blk_lt HM.out.cells);have k0:w.cell? ⟨gb,0,none⟩ = some (.int .i64 o.f0):=zI hbox 0;have k1:w.cell? ⟨gb,1,none⟩ = some (.int .i64 (j:Int)):=zI hbox 1;have c0:w.cell? ⟨gm,0,none⟩ = some (.slice A1 (s).length c1):=zI HM.out.cells 0;have ce:w.cell? ⟨gm,1,none⟩ = some (.slice (some ad) env.length c):=zI HM.out.cells 1;have cv:w.cell? (ad.add j) = some (.int .i64 n):=by { have:=(Kd.at_int (HM.out.env w (Below.refl _ _)) (j:Int) (by omega) (by omega));obtain ⟨ad',e',k'⟩:=this;cases e';rw [hrd,Int.toNat_natCast] at k';exact k' };have HMP1:=zA HM.out.drew;have HBP1:=zA HBW.out.drew;have HZP1:=zA (show gm + 1 ≤ w.drew.heap.size from blk_lt HM.out.cells);clear hb hbox hg))
 clear hp2 hq2
 have hp2:(0 ≤ (j:Int)) = True:=eq_true (by omega)
 have hq2:((j:Int) < (env.length:Int)) = True:=eq_true (by omega)
 have hd2:decide (j < env.length) = true:=zQ hjl
 go_region
 have c0d:w.drew.cell? ⟨gm,0,none⟩ = some (.slice A1 s.length c1):=c0
 obtain ⟨w2,hw2⟩:∃ w2,w2 = w.drew:=⟨_,rfl⟩
 rw [← hw2] at HMP1 HBP1 HZP1 c0d ⊢
 clear hw2 c0 ce cv
 go_wp2_with (first|(at_builtin;refine Kd.R_append (Kd.int .i64) (gm + 1) rfl (.tmp 60) (.tmp 62) 37 3 (.int .i64 0) 8 rfl Tryd.underlying37 info3 rfl (by decide) (by decide) (.slice A1 (s).length c1) (s) (n) [.int .i64 (n)] (fun _=>True) (fun _=>False) rfl rfl ?aP (fun _ h=>h.elim) (fun _ _=>trivial) ?aO (Below.refl _ _) ?aB ?aL ?_;(case aP=>rfl);(case aO=>exact HMP1.out.own);(case aB=>exact HZP1.out);(case aL=>have:=HL.out;omega);intro v1 w1 ho hb hg hat;obtain ⟨A2,c2,e2⟩:=Kd.R_slice ho;subst e2;have HO1:=zA ho;have HB1:=zA hb;have kc:w1.cell? ⟨gm,0,none⟩ = some (.slice A1 (s).length c1):=zI ((hb.block gm (Nat.lt_succ_self gm)).trans HMP1.out.cells) 0;have kz:w1.frozen? ⟨gm,0,none⟩ = false:=zJ ((hb.block gm (Nat.lt_succ_self gm)).trans HMP1.out.cells) 0;clear ho hb hg hat))
 go_end0
 have ho:=HO1.out
 rw [show ((s) ++ [n]).length = (s).length + 1 by simp] at ho
 have hb:=HBP1.out.trans ((HB1.out.mono (Nat.le_succ gm)).setCell (p:=⟨gm,0,none⟩) (Nat.le_refl _) (.slice A2 ((s).length + 1) c2))
 unfold DoPost
 exact ⟨hb,by rw [HP.out];exact ⟨rfl,_,HMP1.out.pushed HL.out ho HB1.out⟩⟩
theorem kind_wf {k:Int} (h:3 ≤ k∧k ≤ 9):(Lit.int .i64 k).wf = true:=by simp [Lit.wf,IntKind.min,IntKind.max,IntKind.signed,IntKind.bits];omega
def mapPs (cap:Array Value):List (Value × Value):=[] ++ [(.int .i64 3,.func (Fn.func 93) #[] cap)] ++ [(.int .i64 4,.func (Fn.func 94) #[] cap)] ++ [(.int .i64 5,.func (Fn.func 95) #[] cap)] ++ [(.int .i64 6,.func (Fn.func 96) #[] cap)] ++ [(.int .i64 7,.func (Fn.func 98) #[] cap)] ++ [(.int .i64 8,.func (Fn.func 99) #[] cap)] ++ [(.int .i64 9,.func (Fn.func 100) #[] cap)]
theorem kind_one {k:Int} (h:3 ≤ k∧k ≤ 9) (cap:Array Value):∀ p ∈ mapPs cap,p.1 = .int .i64 k → p.2 = .func (Fn.func (cloN k)) #[] cap:=by
 intro p hp e
 have:k = 3 ∨ k = 4 ∨ k = 5 ∨ k = 6 ∨ k = 7 ∨ k = 8 ∨ k = 9:=by omega
 simp only [mapPs,List.nil_append,List.cons_append,List.mem_cons,List.not_mem_nil,or_false] at hp
 rcases hp with rfl|rfl|rfl|rfl|rfl|rfl|rfl <;> (simp only [Value.int.injEq,true_and] at e;subst e;rfl)
theorem kind_in {k:Int} (h:3 ≤ k∧k ≤ 9) (cap:Array Value):∃ p ∈ mapPs cap,p.1 = .int .i64 k:=by
 have:k = 3 ∨ k = 4 ∨ k = 5 ∨ k = 6 ∨ k = 7 ∨ k = 8 ∨ k = 9:=by omega
 rcases this with rfl|rfl|rfl|rfl|rfl|rfl|rfl
 ·exact ⟨(.int .i64 3,.func (Fn.func 93) #[] cap),by simp [mapPs],rfl⟩
 ·exact ⟨(.int .i64 4,.func (Fn.func 94) #[] cap),by simp [mapPs],rfl⟩
 ·exact ⟨(.int .i64 5,.func (Fn.func 95) #[] cap),by simp [mapPs],rfl⟩
 ·exact ⟨(.int .i64 6,.func (Fn.func 96) #[] cap),by simp [mapPs],rfl⟩
 ·exact ⟨(.int .i64 7,.func (Fn.func 98) #[] cap),by simp [mapPs],rfl⟩
 ·exact ⟨(.int .i64 8,.func (Fn.func 99) #[] cap),by simp [mapPs],rfl⟩
 ·exact ⟨(.int .i64 9,.func (Fn.func 100) #[] cap),by simp [mapPs],rfl⟩
theorem enter65 (args:Array Value) (w:World):(callFunc 93 args).run Tryd.prog w = .ok (.enter 93 args) w:=by kernel_rfl
theorem enter66 (args:Array Value) (w:World):(callFunc 94 args).run Tryd.prog w = .ok (.enter 94 args) w:=by kernel_rfl
theorem enter67 (args:Array Value) (w:World):(callFunc 95 args).run Tryd.prog w = .ok (.enter 95 args) w:=by kernel_rfl
theorem enter68 (args:Array Value) (w:World):(callFunc 96 args).run Tryd.prog w = .ok (.enter 96 args) w:=by kernel_rfl
theorem enter70 (args:Array Value) (w:World):(callFunc 98 args).run Tryd.prog w = .ok (.enter 98 args) w:=by kernel_rfl
theorem enter71 (args:Array Value) (w:World):(callFunc 99 args).run Tryd.prog w = .ok (.enter 99 args) w:=by kernel_rfl
theorem enter72 (args:Array Value) (w:World):(callFunc 100 args).run Tryd.prog w = .ok (.enter 100 args) w:=by kernel_rfl
theorem clo_enter {kd:Int} (hk:3 ≤ kd∧kd ≤ 9) (args:Array Value) (w:World):(callFunc (cloN kd) args).run Tryd.prog w = .ok (.enter (cloN kd) args) w:=by
 have:kd = 3 ∨ kd = 4 ∨ kd = 5 ∨ kd = 6 ∨ kd = 7 ∨ kd = 8 ∨ kd = 9:=by omega
 rcases this with e|e|e|e|e|e|e <;> subst e
 ·exact enter65 _ _
 ·exact enter66 _ _
 ·exact enter67 _ _
 ·exact enter68 _ _
 ·exact enter70 _ _
 ·exact enter71 _ _
 ·exact enter72 _ _
theorem mapT81:Tryd.prog.underlying 120 = some (.map 3 103):=by kernel_rfl
def KeysOk (ps:List (Value × Value)):Prop:=∀ p ∈ ps,∃ n:Int,p.1 = .int .i64 n∧(Lit.int .i64 n).wf = true
theorem keys_ok {ps:List (Value × Value)} (h:KeysOk ps):∀ p ∈ ps,∃ l,keyOf Tryd.prog 3 p.1 = some l:=fun p hp=>by
 obtain ⟨n,e,hw⟩:=h p hp
 exact ⟨_,by rw [e];exact Go.Maps.keyOf_int_mk Tryd.underlying3 hw⟩
theorem keys_nil:KeysOk []:=fun p hp=>by cases hp
theorem keys_add {ps:List (Value × Value)} {n:Int} {v:Value} (h:KeysOk ps) (hw:(Lit.int .i64 n).wf = true):KeysOk (ps ++ [(.int .i64 n,v)]):=fun p hp=>by
 rcases List.mem_append.1 hp with hp|hp
 ·exact h p hp
 ·rw [List.mem_singleton.1 hp];exact ⟨n,rfl,hw⟩
set_option maxHeartbeats 4000000 in
theorem do_bin (gm:Nat) (v:Value) (s:List Int) (a b:Int) (A:Option Addr) (c:Nat) (env:List Int) (o:S94) (n:Int) (hn:doVal o.f0 a b = n) (hk:3 ≤ o.f0∧o.f0 ≤ 9) (ha:-1000000 ≤ a∧a ≤ 1000000) (hb:-1000000 ≤ b∧b ≤ 1000000) (w0:World) (hl:s.length < 60) (hM0:MachOK w0 gm v (s ++ [b] ++ [a]) A c env) :
  Calls Tryd.prog 77 #[.pointer (some ⟨gm,0,none⟩),.agg #[.int .i64 o.f0,.int .i64 o.f1]] w0 (DoPost n s gm A c env w0):=by
 have hmf:∀ (fn:Fn) (first cap:Array Value) (w:World),(Instr.makeFunc fn first cap).run Tryd.prog w = .ok (.func fn first cap) w:=fun _ _ _ _=>rfl
 have kb1:(o.f0 == 1) = false:=by rw [beq_eq_false_iff_ne];omega
 have kb2:(o.f0 == 2) = false:=by rw [beq_eq_false_iff_ne];omega
 have kb11:(o.f0 == 11) = false:=by rw [beq_eq_false_iff_ne];omega
 have kb12:(o.f0 == 12) = false:=by rw [beq_eq_false_iff_ne];omega
 have kb10:(o.f0 == 10) = false:=by rw [beq_eq_false_iff_ne];omega
 obtain ⟨A1,c1,ev⟩:=Kd.R_slice hM0.own
 subst ev
 have HM0:=zA hM0
 have HL:=zA hl
 have HK:=zA hk
 have HN:=zA hn
 have HA:=zA ha
 have HB:=zA hb
 clear hM0 hl hk ha hb hn
 go_enter Tryd.func77,Tryd.ntmps77
 go_wp2_with (first|((with_reducible refine zV (N:=3) rfl ?_);refine zW ?hg (N:=3) ?hd (cs:=#[.int .i64 o.f0,.int .i64 o.f1]) (t:=94) ?hr ?_;(case hd=>rfl);(case hg=>rfl);(case hr=>first|(go_simp;done)|(go_simp;rfl));intro gb hg w hbox hb;have HM:=zA (HM0.out.mono hb);have HBW:=zA (hb.mono (Nat.le_of_lt (blk_lt HM0.out.cells)));have HZ:=zA (show gm + 1 ≤ w.heap.size from blk_lt HM.out.cells);have k0:w.cell? ⟨gb,0,none⟩ = some (.int .i64 o.f0):=zI hbox 0;have k1:w.cell? ⟨gb,1,none⟩ = some (.int .i64 o.f1):=zI hbox 1;have c0:w.cell? ⟨gm,0,none⟩ = some (.slice A1 (s ++ [b] ++ [a]).length c1):=zI HM.out.cells 0;have HBX0:=zA hbox;have HGB0:=zA (show gm ≠ gb by rw [hg];have:=blk_lt HM0.out.cells;omega);clear hb hbox hg)|(go_at_call 78;(with_reducible refine (pop_calls gm _ (s ++ [b]) a A c env _ HM.out).mono ?_);rintro e wp1 ⟨rfl,vp1,hmp,hbp,hgp⟩;obtain ⟨Ap1,cp1,evp⟩:=Kd.R_slice hmp.own;subst evp;have HMP1:=zA hmp;have HBP1:=zA (HBW.out.trans hbp);have HZP1:=zA (show gm + 1 ≤ wp1.heap.size from blk_lt hmp.cells);have c0p1:wp1.cell? ⟨gm,0,none⟩ = some (.slice Ap1 (s ++ [b]).length cp1):=zI hmp.cells 0;have HBX1:=zA ((hgp.block gb (blk_lt HBX0.out) (by intro e;injection e with e;exact HGB0.out e.symm)).trans HBX0.out);clear hmp hbp hgp))
 refine (pop_calls gm _ s b A c env _ HMP1.out).mono ?_
 rintro e wp2 ⟨rfl,vp2,hmp,hbp,hgp⟩
 obtain ⟨Ap2,cp2,evp⟩:=Kd.R_slice hmp.own
 subst evp
 have HBX2:=zA ((hgp.block gb (blk_lt HBX1.out) (by intro e;injection e with e;exact HGB0.out e.symm)).trans HBX1.out)
 have HMP2:=zA hmp
 have HBP2:=zA (HBP1.out.trans hbp)
 clear hmp hbp hgp k0 k1 c0 c0p1
 go_wp2_with fail
 have hszA:∀ (W:World) (o:Obj),(W.alloc o).heap.size = W.heap.size + 1:=size_alloc
 obtain ⟨w3,hw3⟩:∃ w3,w3 = (wp2.alloc (Obj.cells #[Value.int IntKind.i64 a] 3)).alloc (Obj.cells #[Value.int IntKind.i64 b] 3):=⟨_,rfl⟩
 have hs3:w3.heap.size = wp2.heap.size + 1 + 1:=by rw [hw3];simp [hszA]
 have hb3:Below wp2.heap.size wp2 w3:=by rw [hw3];exact zD (zD (Below.refl _ _) _) _
 have ha3:w3.heap[wp2.heap.size]? = some (Obj.cells #[Value.int IntKind.i64 a] 3 (0,0)):=by rw [hw3,heap_old _ (by simp)];exact heap_new _ _
 have hb3':w3.heap[wp2.heap.size + 1]? = some (Obj.cells #[Value.int IntKind.i64 b] 3 (0,0)):=by rw [hw3,← hszA wp2 (Obj.cells #[Value.int IntKind.i64 a] 3)];exact heap_new _ _
 rw [← hw3]
 clear hw3
 have HGB:=zA (zS (blk_lt HBX2.out) hb3.size)
 have HBX:=zA ((hb3.block gb (blk_lt HBX2.out)).trans HBX2.out)
 have HMap:=zA (MapIs.made w3)
 have HG:=zA (World.grownBy.refl (w3.alloc (.map #[] 0)) (some w3.heap.size))
 have HKs:=zA keys_nil
 have hHBX:=(heap_old (.map #[] 0) HGB.out).trans HBX.out
 clear HBX
 have HBX:=zA hHBX
 have HZ3:=zA (show gb < (w3.alloc (.map #[] 0)).heap.size by have:=HGB.out;simp;omega)
 clear hHBX
 have HA3:=zA ha3
 have HB3:=zA hb3'
 have HBB3:=zA hb3
 have HS3:=zA hs3
 clear ha3 hb3' hb3 hs3 hszA
 rw [run_makeMap]
 go_simp
 go_wp2_with (first|(refine wpList_insert_is _ rfl (.tmp 13) (.const (.int .i64 3)) (.tmp 14) 120 rfl 3 103 (Go.Maps.int_keyed Tryd.underlying3) mapT81 w3.heap.size _ rfl HMap.out (.int .i64 3) (.func (Fn.func 93) #[] #[.pointer (some ⟨wp2.heap.size,0,none⟩),.pointer (some ⟨wp2.heap.size + 1,0,none⟩)]) (.int .i64 3) rfl rfl (Go.Maps.keyOf_int_mk Tryd.underlying3 (by decide)) (keys_ok HKs.out) ?hn ?_;(case hn=>simp);intro wi hmi hgi;have n0:=zA hmi;have n1:=zA (grownBy_trans HG.out hgi);have n2:=zA (keys_add (n:=3) (v:=(.func (Fn.func 93) #[] #[.pointer (some ⟨wp2.heap.size,0,none⟩),.pointer (some ⟨wp2.heap.size + 1,0,none⟩)])) HKs.out (by decide));clear HMap HG HKs hmi hgi;have HMap:=n0;have HG:=n1;have HKs:=n2;clear n0 n1 n2;(try clear kk);have kk:wi.cell? ⟨gb,0,none⟩ = some (.int .i64 o.f0):=zI ((HG.out.block gb HZ3.out (by have:=HGB.out;intro e;injection e with e;omega)).trans HBX.out) 0)|(refine wpList_insert_is _ rfl (.tmp 13) (.const (.int .i64 4)) (.tmp 15) 120 rfl 3 103 (Go.Maps.int_keyed Tryd.underlying3) mapT81 w3.heap.size _ rfl HMap.out (.int .i64 4) (.func (Fn.func 94) #[] #[.pointer (some ⟨wp2.heap.size,0,none⟩),.pointer (some ⟨wp2.heap.size + 1,0,none⟩)]) (.int .i64 4) rfl rfl (Go.Maps.keyOf_int_mk Tryd.underlying3 (by decide)) (keys_ok HKs.out) ?hn ?_;(case hn=>simp);intro wi hmi hgi;have n0:=zA hmi;have n1:=zA (grownBy_trans HG.out hgi);have n2:=zA (keys_add (n:=4) (v:=(.func (Fn.func 94) #[] #[.pointer (some ⟨wp2.heap.size,0,none⟩),.pointer (some ⟨wp2.heap.size + 1,0,none⟩)])) HKs.out (by decide));clear HMap HG HKs hmi hgi;have HMap:=n0;have HG:=n1;have HKs:=n2;clear n0 n1 n2;(try clear kk);have kk:wi.cell? ⟨gb,0,none⟩ = some (.int .i64 o.f0):=zI ((HG.out.block gb HZ3.out (by have:=HGB.out;intro e;injection e with e;omega)).trans HBX.out) 0)|(refine wpList_insert_is _ rfl (.tmp 13) (.const (.int .i64 5)) (.tmp 16) 120 rfl 3 103 (Go.Maps.int_keyed Tryd.underlying3) mapT81 w3.heap.size _ rfl HMap.out (.int .i64 5) (.func (Fn.func 95) #[] #[.pointer (some ⟨wp2.heap.size,0,none⟩),.pointer (some ⟨wp2.heap.size + 1,0,none⟩)]) (.int .i64 5) rfl rfl (Go.Maps.keyOf_int_mk Tryd.underlying3 (by decide)) (keys_ok HKs.out) ?hn ?_;(case hn=>simp);intro wi hmi hgi;have n0:=zA hmi;have n1:=zA (grownBy_trans HG.out hgi);have n2:=zA (keys_add (n:=5) (v:=(.func (Fn.func 95) #[] #[.pointer (some ⟨wp2.heap.size,0,none⟩),.pointer (some ⟨wp2.heap.size + 1,0,none⟩)])) HKs.out (by decide));clear HMap HG HKs hmi hgi;have HMap:=n0;have HG:=n1;have HKs:=n2;clear n0 n1 n2;(try clear kk);have kk:wi.cell? ⟨gb,0,none⟩ = some (.int .i64 o.f0):=zI ((HG.out.block gb HZ3.out (by have:=HGB.out;intro e;injection e with e;omega)).trans HBX.out) 0)|(refine wpList_insert_is _ rfl (.tmp 13) (.const (.int .i64 6)) (.tmp 17) 120 rfl 3 103 (Go.Maps.int_keyed Tryd.underlying3) mapT81 w3.heap.size _ rfl HMap.out (.int .i64 6) (.func (Fn.func 96) #[] #[.pointer (some ⟨wp2.heap.size,0,none⟩),.pointer (some ⟨wp2.heap.size + 1,0,none⟩)]) (.int .i64 6) rfl rfl (Go.Maps.keyOf_int_mk Tryd.underlying3 (by decide)) (keys_ok HKs.out) ?hn ?_;(case hn=>simp);intro wi hmi hgi;have n0:=zA hmi;have n1:=zA (grownBy_trans HG.out hgi);have n2:=zA (keys_add (n:=6) (v:=(.func (Fn.func 96) #[] #[.pointer (some ⟨wp2.heap.size,0,none⟩),.pointer (some ⟨wp2.heap.size + 1,0,none⟩)])) HKs.out (by decide));clear HMap HG HKs hmi hgi;have HMap:=n0;have HG:=n1;have HKs:=n2;clear n0 n1 n2;(try clear kk);have kk:wi.cell? ⟨gb,0,none⟩ = some (.int .i64 o.f0):=zI ((HG.out.block gb HZ3.out (by have:=HGB.out;intro e;injection e with e;omega)).trans HBX.out) 0)|(refine wpList_insert_is _ rfl (.tmp 13) (.const (.int .i64 7)) (.tmp 18) 120 rfl 3 103 (Go.Maps.int_keyed Tryd.underlying3) mapT81 w3.heap.size _ rfl HMap.out (.int .i64 7) (.func (Fn.func 98) #[] #[.pointer (some ⟨wp2.heap.size,0,none⟩),.pointer (some ⟨wp2.heap.size + 1,0,none⟩)]) (.int .i64 7) rfl rfl (Go.Maps.keyOf_int_mk Tryd.underlying3 (by decide)) (keys_ok HKs.out) ?hn ?_;(case hn=>simp);intro wi hmi hgi;have n0:=zA hmi;have n1:=zA (grownBy_trans HG.out hgi);have n2:=zA (keys_add (n:=7) (v:=(.func (Fn.func 98) #[] #[.pointer (some ⟨wp2.heap.size,0,none⟩),.pointer (some ⟨wp2.heap.size + 1,0,none⟩)])) HKs.out (by decide));clear HMap HG HKs hmi hgi;have HMap:=n0;have HG:=n1;have HKs:=n2;clear n0 n1 n2;(try clear kk);have kk:wi.cell? ⟨gb,0,none⟩ = some (.int .i64 o.f0):=zI ((HG.out.block gb HZ3.out (by have:=HGB.out;intro e;injection e with e;omega)).trans HBX.out) 0)|(refine wpList_insert_is _ rfl (.tmp 13) (.const (.int .i64 8)) (.tmp 19) 120 rfl 3 103 (Go.Maps.int_keyed Tryd.underlying3) mapT81 w3.heap.size _ rfl HMap.out (.int .i64 8) (.func (Fn.func 99) #[] #[.pointer (some ⟨wp2.heap.size,0,none⟩),.pointer (some ⟨wp2.heap.size + 1,0,none⟩)]) (.int .i64 8) rfl rfl (Go.Maps.keyOf_int_mk Tryd.underlying3 (by decide)) (keys_ok HKs.out) ?hn ?_;(case hn=>simp);intro wi hmi hgi;have n0:=zA hmi;have n1:=zA (grownBy_trans HG.out hgi);have n2:=zA (keys_add (n:=8) (v:=(.func (Fn.func 99) #[] #[.pointer (some ⟨wp2.heap.size,0,none⟩),.pointer (some ⟨wp2.heap.size + 1,0,none⟩)])) HKs.out (by decide));clear HMap HG HKs hmi hgi;have HMap:=n0;have HG:=n1;have HKs:=n2;clear n0 n1 n2;(try clear kk);have kk:wi.cell? ⟨gb,0,none⟩ = some (.int .i64 o.f0):=zI ((HG.out.block gb HZ3.out (by have:=HGB.out;intro e;injection e with e;omega)).trans HBX.out) 0)|(refine wpList_insert_is _ rfl (.tmp 13) (.const (.int .i64 9)) (.tmp 20) 120 rfl 3 103 (Go.Maps.int_keyed Tryd.underlying3) mapT81 w3.heap.size _ rfl HMap.out (.int .i64 9) (.func (Fn.func 100) #[] #[.pointer (some ⟨wp2.heap.size,0,none⟩),.pointer (some ⟨wp2.heap.size + 1,0,none⟩)]) (.int .i64 9) rfl rfl (Go.Maps.keyOf_int_mk Tryd.underlying3 (by decide)) (keys_ok HKs.out) ?hn ?_;(case hn=>simp);intro wi hmi hgi;have n0:=zA hmi;have n1:=zA (grownBy_trans HG.out hgi);have n2:=zA (keys_add (n:=9) (v:=(.func (Fn.func 100) #[] #[.pointer (some ⟨wp2.heap.size,0,none⟩),.pointer (some ⟨wp2.heap.size + 1,0,none⟩)])) HKs.out (by decide));clear HMap HG HKs hmi hgi;have HMap:=n0;have HG:=n1;have HKs:=n2;clear n0 n1 n2;(try clear kk);have kk:wi.cell? ⟨gb,0,none⟩ = some (.int .i64 o.f0):=zI ((HG.out.block gb HZ3.out (by have:=HGB.out;intro e;injection e with e;omega)).trans HBX.out) 0))
 have hlook:=MapIs.look_some HMap.out (Go.Maps.int_keyed Tryd.underlying3) mapT81 (keys_ok HKs.out) (key:=.int .i64 o.f0) (v:=.func (Fn.func (cloN o.f0)) #[] #[.pointer (some ⟨wp2.heap.size,0,none⟩),.pointer (some ⟨wp2.heap.size + 1,0,none⟩)]) (Go.Maps.keyOf_int_mk Tryd.underlying3 (kind_wf HK.out)) false (kind_one HK.out _) (kind_in HK.out _)
 simp only [Bool.false_eq_true,if_false] at hlook
 rw [hlook]
 clear hlook kk
 have hbi:Below wp2.heap.size wp2 wi:=(zD HBB3.out _).grown HG.out (by have:=HBB3.out.size;simp;omega) (fun k hk=>by injection hk with hk;rw [← hk];exact HBB3.out.size)
 have hai:wi.heap[wp2.heap.size]? = some (Obj.cells #[Value.int IntKind.i64 a] 3 (0,0)):=(HG.out.block _ (by have:=blk_lt HA3.out;simp;omega) (by have:=blk_lt HA3.out;intro e;injection e with e;omega)).trans ((heap_old _ (blk_lt HA3.out)).trans HA3.out)
 have hbi':wi.heap[wp2.heap.size + 1]? = some (Obj.cells #[Value.int IntKind.i64 b] 3 (0,0)):=(HG.out.block _ (by have:=blk_lt HB3.out;simp;omega) (by have:=blk_lt HB3.out;intro e;injection e with e;omega)).trans ((heap_old _ (blk_lt HB3.out)).trans HB3.out)
 have HCl:=zA (clo_calls o.f0 HK.out wp2.heap.size (wp2.heap.size + 1) a b wi hai hbi' HA.out HB.out)
 have HM5:=zA (HMP2.out.mono hbi)
 have HZ5:=zA (show gm + 1 ≤ wi.heap.size from blk_lt HM5.out.cells)
 have HBP5:=zA (HBP2.out.trans (hbi.mono (Nat.le_of_lt (blk_lt HMP2.out.cells))))
 have c05:wi.cell? ⟨gm,0,none⟩ = some (.slice Ap2 s.length cp2):=zI HM5.out.cells 0
 clear hai hbi hbi'
 rw [HN.out] at HCl
 go_simp
 go_wp2_with fail
 rw [clo_enter HK.out,Oper.upon_enter]
 refine HCl.out.mono ?_
 rintro e w5 ⟨rfl,rfl⟩
 by_cases h1:n < -1000000
 ·have q1:decide (n < -1000000) = true:=zQ h1
  have HP:=zA (show pushS n s = .error 8 by unfold pushS;rw [if_pos (.inl h1)])
  go_wp2_with fail
  exact ⟨rfl,by unfold DoPost;exact ⟨HBP5.out,by rw [HP.out]⟩⟩
 have q1:decide (n < -1000000) = false:=zR h1
 by_cases h2:n > 1000000
 ·have q2:decide (n > 1000000) = true:=zQ h2
  have HP:=zA (show pushS n s = .error 8 by unfold pushS;rw [if_pos (.inr h2)])
  go_wp2_with fail
  exact ⟨rfl,by unfold DoPost;exact ⟨HBP5.out,by rw [HP.out]⟩⟩
 have q2:decide (n > 1000000) = false:=zR h2
 have HP:=zA (show pushS n s = .ok (s ++ [n]) by unfold pushS;rw [if_neg (by omega)])
 go_wp2_with (first|(at_builtin;refine Kd.R_append (Kd.int .i64) (gm + 1) rfl (.tmp 60) (.tmp 62) 37 3 (.int .i64 0) 8 rfl Tryd.underlying37 info3 rfl (by decide) (by decide) (.slice Ap2 (s).length cp2) (s) (n) [.int .i64 (n)] (fun _=>True) (fun _=>False) rfl rfl ?aP (fun _ h=>h.elim) (fun _ _=>trivial) ?aO (Below.refl _ _) ?aB ?aL ?_;(case aP=>rfl);(case aO=>exact HM5.out.own);(case aB=>exact HZ5.out);(case aL=>have:=HL.out;omega);intro v1 w1 ho hb hg hat;obtain ⟨A2,c2,e2⟩:=Kd.R_slice ho;subst e2;have HO1:=zA ho;have HB1:=zA hb;have kc:w1.cell? ⟨gm,0,none⟩ = some (.slice Ap2 (s).length cp2):=zI ((hb.block gm (Nat.lt_succ_self gm)).trans HM5.out.cells) 0;have kz:w1.frozen? ⟨gm,0,none⟩ = false:=zJ ((hb.block gm (Nat.lt_succ_self gm)).trans HM5.out.cells) 0;clear ho hb hg hat))
 go_end0
 have ho:=HO1.out
 rw [show ((s) ++ [n]).length = (s).length + 1 by simp] at ho
 have hb:=HBP5.out.trans ((HB1.out.mono (Nat.le_succ gm)).setCell (p:=⟨gm,0,none⟩) (Nat.le_refl _) (.slice A2 ((s).length + 1) c2))
 unfold DoPost
 exact ⟨hb,by rw [HP.out];exact ⟨rfl,_,HM5.out.pushed HL.out ho HB1.out⟩⟩
theorem runS_err (env:List Int):∀ (l:List S94) (i:Nat) (c:Int),Pure.runS env (l.drop i) = .error c → Pure.runS env l = .error c
 | l,0,c,h=>h
 | [],i + 1,c,h=>by simp at h;exact h
 | o :: l,i + 1,c,h=>by
  have:=runS_err env l i c h
  rw [Pure.runS,this]
theorem do_any (gm:Nat) (v:Value) (stk:List Int) (A:Option Addr) (c:Nat) (env:List Int) (o:S94) (hk1:1 ≤ o.f0) (hk2:o.f0 ≤ 12) (h10:o.f0 = 10 → 1 ≤ stk.length) (h3:3 ≤ o.f0 → o.f0 ≤ 9 → 2 ≤ stk.length) (hv:o.f0 = 2 → 0 ≤ o.f1∧o.f1 < (env.length:Int)) (hm:env.length ≤ 6)
  (hb:∀ x ∈ stk,-1000000 ≤ x∧x ≤ 1000000) (hl:stk.length < 60) (w:World) (hM:MachOK w gm v stk A c env) :
  Calls Tryd.prog 77 #[.pointer (some ⟨gm,0,none⟩),.agg #[.int .i64 o.f0,.int .i64 o.f1]] w fun e w'=>Below gm w w'∧match Pure.stepS env o stk with
   | .error cc=>e = .panicked [{ v:=.iface 27 (.int .i64 cc),recovered:=false }]
   | .ok s'=>e = .returned (.tuple #[])∧∃ v',MachOK w' gm v' s' A c env:=by
 unfold Pure.stepS
 by_cases k1:o.f0 = 1
 ·rw [if_pos k1];exact do_num gm v stk A c env o k1 w hl hM
 rw [if_neg k1]
 by_cases k2:o.f0 = 2
 ·rw [if_pos k2];exact do_var gm v stk A c env o k2 _ (hv k2).1 (hv k2).2 (by omega) rfl w hl hM
 rw [if_neg k2]
 by_cases k3:o.f0 = 11
 ·rw [if_pos k3];exact do_yes gm v stk A c env o k3 w hl hM
 rw [if_neg k3]
 by_cases k4:o.f0 = 12
 ·rw [if_pos k4];exact do_no gm v stk A c env o k4 w hl hM
 rw [if_neg k4]
 by_cases k5:o.f0 = 10
 ·rw [if_pos k5]
  have hne:stk ≠ []:=by intro e;have:=h10 k5;rw [e] at this;simp at this
  have hd:=List.dropLast_concat_getLast hne
  have hg:stk.getLastD 0 = stk.getLast hne:=by rw [List.getLastD_eq_getLast?,List.getLast?_eq_some_getLast hne];rfl
  rw [hg]
  have hx:=hb _ (List.getLast_mem hne)
  have hM2:MachOK w gm v (stk.dropLast ++ [stk.getLast hne]) A c env:=by rw [hd];exact hM
  exact do_not gm v stk.dropLast (stk.getLast hne) A c env o k5 hx w (by rw [List.length_dropLast];omega) hM2
 ·rw [if_neg k5]
  have h2:=h3 (by omega) (by omega)
  have hne:stk ≠ []:=by intro e;rw [e] at h2;simp at h2
  have hd:=List.dropLast_concat_getLast hne
  have hne2:stk.dropLast ≠ []:=by intro e;have:=congrArg List.length e;rw [List.length_dropLast] at this;simp at this;omega
  have hd2:=List.dropLast_concat_getLast hne2
  have hg:stk.getLastD 0 = stk.getLast hne:=by rw [List.getLastD_eq_getLast?,List.getLast?_eq_some_getLast hne];rfl
  have hg2:stk.dropLast.getLastD 0 = stk.dropLast.getLast hne2:=by rw [List.getLastD_eq_getLast?,List.getLast?_eq_some_getLast hne2];rfl
  rw [hg,hg2]
  have hx:=hb _ (List.getLast_mem hne)
  have hx2:=hb _ ((List.dropLast_sublist _).subset (List.getLast_mem hne2))
  have hM2:MachOK w gm v (stk.dropLast.dropLast ++ [stk.dropLast.getLast hne2] ++ [stk.getLast hne]) A c env:=by rw [hd2,hd];exact hM
  exact do_bin gm v stk.dropLast.dropLast (stk.getLast hne) (stk.dropLast.getLast hne2) A c env o _ rfl ⟨by omega,by omega⟩ hx hx2 w (by rw [List.length_dropLast,List.length_dropLast];omega) hM2
theorem assert_errnoE (c:Int) (W:World):(Instr.typeAssert (.iface 27 (.int .i64 c)) 20 27 false).run Tryd.prog W = .ok (.int .i64 c) W:=by kernel_rfl
theorem catchE_panicking (b1 b2:Nat) (hb:b1 ≠ b2) (c:Int) (older:List PanicEntry) (w:World) (hc:w.cell? ⟨b1,0,none⟩ = some (.int .i64 0)) (hz:w.frozen? ⟨b1,0,none⟩ = false) (hc2:w.cell? ⟨b2,0,none⟩ = some (.int .i64 0)) (hz2:w.frozen? ⟨b2,0,none⟩ = false) :
  CallsD Tryd.prog 76 #[.pointer (some ⟨b1,0,none⟩),.pointer (some ⟨b2,0,none⟩)] (.panicking ({ v:=.iface 27 (.int .i64 c),recovered:=false } :: older)) w fun e u' w' =>
   e = .returned (.tuple #[])∧u' = .panicking ({ v:=.iface 27 (.int .i64 c),recovered:=true } :: older)∧Same w' ((w.setCell ⟨b1,0,none⟩ (.int .i64 0)).setCell ⟨b2,0,none⟩ (.int .i64 c)):=by
 have hc21:(w.setCell ⟨b1,0,none⟩ (.int .i64 0)).cell? ⟨b2,0,none⟩ = some (.int .i64 0):=(World.cell?_setCell_other w ⟨b1,0,none⟩ ⟨b2,0,none⟩ _ (by intro e;injection e with e;exact hb e)).trans hc2
 have hc12:(w.setCell ⟨b2,0,none⟩ (.int .i64 c)).cell? ⟨b1,0,none⟩ = some (.int .i64 0):=(World.cell?_setCell_other w ⟨b2,0,none⟩ ⟨b1,0,none⟩ _ (by intro e;injection e with e;exact hb e.symm)).trans hc
 refine callsD_of_wpS Tryd.func76 rfl fun c₀ cs hu=>?_
 apply wpS_seq
 apply wpS_region
 simp [wpOpsS,go_sem,recoverD,hu,Tryd.ntmps76,Exit.thenS]
 apply wpS_seq
 apply wpS_region
 simp [wpOpsS,go_sem,recoverD,hu,Tryd.ntmps76,Exit.thenS]
 refine wpS_cond (t:=true) (by simp [Act.eval,Array.replicate]) ?_
 simp only [if_true]
 refine wpS_of_wp ?_
 have hta:=assert_errnoE c
 go_region
 all_goals
  cases c₀
  simp_all [bodyPostS,results,Tryd.results76]
  exact Same.drew _
theorem catchE_idle (p q:Value) (w:World) :
  CallsD Tryd.prog 76 #[p,q] .returning w fun e u' w'=>e = .returned (.tuple #[])∧u' = .returning∧w' = w:=by
 refine callsD_of_wpS Tryd.func76 rfl fun c₀ cs hu=>?_
 apply wpS_seq
 apply wpS_region
 simp [wpOpsS,go_sem,recoverD,hu,Tryd.ntmps76,Exit.thenS]
 apply wpS_seq
 apply wpS_region
 simp [wpOpsS,go_sem,Exit.thenS]
 refine wpS_cond (t:=false) (by simp [Act.eval,Array.replicate]) ?_
 simp only [Bool.false_eq_true,if_false]
 refine wpS_of_wp (wp_skip ?_)
 cases c₀
 simp_all [bodyPostS,results,Tryd.results76]
def expr_Eval.f (l0:List S94) (l1:List Int):Option (Int × Int):=some (Pure.evalS l0 l1)
set_option maxHeartbeats 2000000 in
theorem expr_Eval.calls (A0:Option Addr) (c0:Nat) (l0:List S94) (A1:Option Addr) (c1:Nat) (l1:List Int) (r1:Int) (r2:Int) (w:World) (hr0:Kd.C k94 w A0 l0.length l0) (hc0:l0.length ≤ c0) (hr1:Kd.C (Kd.int .i64) w A1 l1.length l1) (hc1:l1.length ≤ c1) (hL:LaidG w) (h:expr_Eval.f l0 l1 = some (r1,r2)) :
  Calls Tryd.prog 60 #[.slice A0 l0.length c0,.slice A1 l1.length c1] w fun e w'=>e = .returned (.tuple #[.int .i64 r1,.int .i64 r2])∧Below w.heap.size w w':=by
 have hmf:∀ (fn:Fn) (first cap:Array Value) (w:World),(Instr.makeFunc fn first cap).run Tryd.prog w = .ok (.func fn first cap) w:=fun _ _ _ _=>rfl
 have h:=Option.some.inj h
 have hml:l1.length ≤ 9223372036854775807:=by have:=hr1.2.1;unfold maxLen at this;exact this
 obtain ⟨K,hK⟩:=Pure.exprCheck_ev l0 (l1.length:Int) ⟨by omega,by omega⟩
 have hA:=hK K (Nat.le_refl _)
 unfold Pure.evalS at h
 have hex:∃ bb er,Pure.exprS l0 l1.length = (bb,er):=⟨_,_,rfl⟩
 obtain ⟨bb,er,hex⟩:=hex
 rw [hex] at h hA
 have HR:=zA hr0
 have HC:=zA hc0
 have HR1:=zA hr1
 have HC1:=zA hc1
 have HLd:=zA hL
 have HA:=zA hA
 have HX:=zA hex
 clear hr0 hc0 hr1 hc1 hL hK hA hex
 have hszA:∀ (W:World) (o:Obj),(W.alloc o).heap.size = W.heap.size + 1:=size_alloc
 obtain ⟨W2,hW2⟩:∃ W2,W2 = (w.alloc (Obj.cells #[Value.int IntKind.i64 0] 3)).alloc (Obj.cells #[Value.int IntKind.i64 0] 27):=⟨_,rfl⟩
 have hB2:Below w.heap.size w W2:=by rw [hW2];exact zD (zD (Below.refl _ _) _) _
 have hs2:W2.heap.size = w.heap.size + 1 + 1:=by rw [hW2];simp [hszA]
 have a1:W2.heap[w.heap.size]? = some (.cells #[Value.int IntKind.i64 0] 3 (0,0)):=by rw [hW2,heap_old _ (by simp)];exact heap_new _ _
 have a2:W2.heap[w.heap.size + 1]? = some (.cells #[Value.int IntKind.i64 0] 27 (0,0)):=by rw [hW2,← hszA w (Obj.cells #[Value.int IntKind.i64 0] 3)];exact heap_new _ _
 have HCk:=zA (expr_Check.calls K A0 c0 l0 (l1.length:Int) bb er W2 (zT HR.out hB2) HC.out (HLd.out.below hB2) HA.out)
 have HA1:=zA a1
 have HA2:=zA a2
 have HB2:=zA hB2
 have HS2:=zA hs2
 clear a1 a2 hB2 hszA hs2
 by_cases her:er = 0
 ·subst her
  rw [if_pos rfl] at h
  obtain ⟨⟨e0,e6⟩,hone,h60,hfit,-,-⟩:=Pure.exprS_ok (l:=l0) (n:=l1.length) (by rw [HX.out])
  have HH:=zA h
  clear h
  go_enter_defers Tryd.func60,Tryd.ntmps60
  go_wp2_with fail
  rw [← hW2]
  refine HCk.out.mono ?_
  rintro e w1 ⟨rfl,hb⟩
  have b1:=(hb.block _ (blk_lt HA1.out)).trans HA1.out
  have b2:=(hb.block _ (blk_lt HA2.out)).trans HA2.out
  have k1:w1.cell? ⟨w.heap.size,0,none⟩ = some (.int .i64 0):=zI b1 0
  have k2:w1.cell? ⟨w.heap.size + 1,0,none⟩ = some (.int .i64 0):=zI b2 0
  have z1:w1.frozen? ⟨w.heap.size,0,none⟩ = false:=zJ b1 0
  have z2:w1.frozen? ⟨w.heap.size + 1,0,none⟩ = false:=zJ b2 0
  have HB1:=zA (zH HB2.out hb)
  have HS1:=zA (show w.heap.size + 1 + 1 ≤ w1.heap.size by rw [← HS2.out];exact hb.size)
  have B1:=zA b1
  have B2:=zA b2
  clear hb b1 b2 hW2
  go_wp2_with fail
  go_loop [24] (fun t24=>∃ j:Nat,t24 = .int .i64 (j:Int)∧Aside0 (j ≤ l1.length∧(l1.take j).all Pure.inR = true)) (fun t24=>l1.length - (intOf t24).toNat)
  case atStart=>exact ⟨0,rfl,⟨Nat.zero_le _,rfl⟩⟩
  case round =>
   obtain ⟨j,rfl,HJ⟩:=hrel
   by_cases hlt:j < l1.length
   ·have hq:decide ((j:Int) < (l1.length:Int)) = true:=zQ (by omega)
    have hq2:decide (j < l1.length) = true:=zQ hlt
    obtain ⟨ad,ea,y⟩:=Kd.at_int (zT HR1.out HB1.out) (j:Int) (by omega) (by omega)
    subst ea
    obtain ⟨x,hx⟩:∃ x,x = rd l1 (j:Int):=⟨_,rfl⟩
    rw [← hx,Int.toNat_natCast] at y
    have hx2:x = l1[j]:=by rw [hx];exact Base.rd_get _ _ hlt
    have HXX:=zA hx2
    clear hx hx2
    have e1:IntKind.i64.wrap ((j:Int) + 1) = (j:Int) + 1:=by rw [IntKind.wrap_i64];omega
    have hbad:(x < -1000000 ∨ x > 1000000) → l1.all Pure.inR = false:=by
     intro hb
     rw [List.all_eq_false]
     exact ⟨l1[j],List.getElem_mem hlt,by rw [← HXX.out];unfold Pure.inR;simp;omega⟩
    have HBad:=zA hbad
    clear hbad
    by_cases g1:x < -1000000
    ·have q1:decide (x < -1000000) = true:=zQ g1
     have hr:=HH.out
     rw [HBad.out (.inl g1)] at hr
     obtain ⟨rfl,rfl⟩:=Prod.mk.inj hr
     clear hr
     go_wp2
     simp [bodyPostD,Leaves,settle,results,Tryd.results60,go_sem,k1,k2]
     exact ((HB1.out.setCell (Nat.le_refl _) _).setCell (by simp) _)
    have q1:decide (x < -1000000) = false:=zR g1
    by_cases g2:x > 1000000
    ·have q2:decide (x > 1000000) = true:=zQ g2
     have hr:=HH.out
     rw [HBad.out (.inr g2)] at hr
     obtain ⟨rfl,rfl⟩:=Prod.mk.inj hr
     clear hr
     go_wp2
     simp [bodyPostD,Leaves,settle,results,Tryd.results60,go_sem,k1,k2]
     exact ((HB1.out.setCell (Nat.le_refl _) _).setCell (by simp) _)
    have q2:decide (x > 1000000) = false:=zR g2
    go_wp2
    go_round
    case rel =>
     refine ⟨j + 1,by go_num,⟨by omega,?_⟩⟩
     rw [List.take_succ_eq_append_getElem hlt,List.all_append,HJ.out.2,← HXX.out]
     simp [Pure.inR]
     omega
    case measure=>simp [intOf];omega
   ·have hq:decide ((j:Int) < (l1.length:Int)) = false:=zR (by omega)
    have hj:j = l1.length:=by have:=HJ.out.1;omega
    have hall:=HJ.out.2
    rw [hj,List.take_of_length_le (Nat.le_refl _)] at hall
    have hr:=HH.out
    rw [hall,if_pos rfl] at hr
    have HH2:=zA hr
    clear hr hall hj HH HJ
    go_wp2_with fail
    obtain ⟨gm,hgm⟩:∃ gm,gm = w1.heap.size:=⟨_,rfl⟩
    obtain ⟨wm,hwm⟩:∃ wm,wm = w1.alloc (Obj.cells #[Value.slice none 0 0,Value.slice A1 l1.length c1] 101):=⟨_,rfl⟩
    have hBm:Below w1.heap.size w1 wm:=by rw [hwm];exact zD (Below.refl _ _) _
    have hM0:MachOK wm gm (.slice none 0 0) [] A1 c1 l1:=by
     refine ⟨by rw [hwm,hgm];exact heap_new _ _,Kd.R_nil _ _ _ _ _,fun W hW=>?_,by simp⟩
     have hbw:Below w1.heap.size w1 W:=hBm.trans (by rw [← hgm];exact hW)
     exact zT (zT HR1.out HB1.out) hbw
    rw [← hwm,← hgm]
    have HBm:=zA (show Below gm w1 wm by rw [hgm];exact hBm)
    have HM0:=zA hM0
    have HGM:=zA (show w.heap.size + 1 + 1 ≤ gm by rw [hgm];exact HS1.out)
    clear hBm hM0 hwm hgm k1 k2 z1 z2 hq
    go_loopg [11] l0.length (fun kq v11 wr=>∃ (stk:List Int) (v:Value),v11 = .int .i64 ((kq:Int) - 1)∧Aside0 (kq ≤ l0.length)∧Aside0 (Pure.runS l1 (l0.drop kq) = .ok stk)∧Aside0 (MachOK wr gm v stk A1 c1 l1)∧Aside0 (Below gm wm wr))
    case atStart=>exact ⟨[],_,rfl,⟨Nat.le_refl _⟩,⟨by rw [List.drop_of_length_le (Nat.le_refl _)];rfl⟩,HM0,⟨Below.refl _ _⟩⟩
    case round =>
     obtain ⟨stk,v,rfl,HK,HRun,HM,HBr⟩:=hrel
     have hk:=HK.out
     have b1:=(HBr.out.block w.heap.size (by have:=HGM.out;omega)).trans ((HBm.out.block w.heap.size (by have:=HGM.out;omega)).trans B1.out)
     have b2:=(HBr.out.block (w.heap.size + 1) (by have:=HGM.out;omega)).trans ((HBm.out.block (w.heap.size + 1) (by have:=HGM.out;omega)).trans B2.out)
     have C1:=zA b1
     have C2:=zA b2
     clear b1 b2
     have ends:∀ (wz:World) (n cc:Int),Below gm wr wz → Below w.heap.size w wz:=fun wz n cc hz=>(HB1.out.trans ((HBm.out.trans (HBr.out.trans hz)).mono (by have:=HGM.out;omega)))
     have HEnds:=zA ends
     clear ends
     cases gk with
     | zero =>
      have hq:decide (((0:Nat):Int) - 1 ≥ 0) = false:=by decide
      have hrun:=HRun.out
      rw [List.drop_zero] at hrun
      obtain ⟨hl1,hbd⟩:=Pure.run_len l1 l0 1 stk hfit hone hrun
      obtain ⟨x,rfl⟩:∃ x,stk = [x]:=by
       match stk,hl1 with
       | [x],_=>exact ⟨x,rfl⟩
      have hr:=HH2.out
      rw [hrun] at hr
      obtain ⟨rfl,rfl⟩:=Prod.mk.inj hr
      have HM1:=zA (show MachOK wr gm v ([] ++ [x]) A1 c1 l1 from HM.out)
      clear hr hrun hl1 hbd
      go_wp2_with fail
      refine (pop_calls gm v [] x A1 c1 l1 wr HM1.out).mono ?_
      rintro e wp ⟨rfl,vp,hmp,hbp,hgp⟩
      have b1:=(hbp.block w.heap.size (by have:=HGM.out;omega)).trans C1.out
      have b2:=(hbp.block (w.heap.size + 1) (by have:=HGM.out;omega)).trans C2.out
      have k1:wp.cell? ⟨w.heap.size,0,none⟩ = some (.int .i64 0):=zI b1 0
      have k2:wp.cell? ⟨w.heap.size + 1,0,none⟩ = some (.int .i64 0):=zI b2 0
      have z1:wp.frozen? ⟨w.heap.size,0,none⟩ = false:=zJ b1 0
      have z2:wp.frozen? ⟨w.heap.size + 1,0,none⟩ = false:=zJ b2 0
      have HBP:=zA (HEnds.out wp 0 0 hbp)
      clear b1 b2 hmp hbp hgp
      go_wp2
      refine leaves_cons (f:=76) (args:=#[.pointer (some ⟨w.heap.size,0,none⟩),.pointer (some ⟨w.heap.size + 1,0,none⟩)]) (by simp) (by simp [go_sem]) ?_
      refine (catchE_idle _ _ _).mono ?_
      rintro e u' w'' ⟨rfl,rfl,rfl⟩
      simp [Leaves,settle,results,Tryd.results60,go_sem,k1,k2]
      exact ((HBP.out.setCell (Nat.le_refl _) _).setCell (by simp) _)
     | succ i =>
      have hlt:i < l0.length:=by omega
      obtain ⟨d1,d2,d3,d4,d5,d6,d7⟩:=Pure.expr_at hone hfit l1 i hlt stk HRun.out
      have hR2:Kd.C k94 wr A0 l0.length l0:=zT HR.out (HEnds.out wr 0 0 (Below.refl _ _))
      obtain ⟨ad,e1,y0,y1⟩:=at_T94 hR2 i (by omega) (by omega)
      subst e1
      obtain ⟨o,ho⟩:∃ o,o = l0[i]:=⟨_,rfl⟩
      have hg:rd_T94 l0 i = o:=by rw [ho];exact Base.getD_get _ _ _ hlt
      rw [hg,Int.toNat_natCast] at y0 y1
      rw [← ho] at d1 d2 d3 d4 d5
      have hdo:=do_any gm v stk A1 c1 l1 o d1 d2 d3 d4 d5 (by omega) d6 (by omega) wr HM.out
      have hrs:Pure.runS l1 (l0.drop i) = Pure.stepS l1 o stk:=by
       rw [List.drop_eq_getElem_cons hlt,Pure.runS,HRun.out,← ho]
      have e2:((i + 1:Nat):Int) - 1 = (i:Int):=by omega
      have e3:IntKind.i64.wrap ((i:Int) - 1) = (i:Int) - 1:=by rw [IntKind.wrap_i64];omega
      rw [e2]
      have hq:decide ((i:Int) ≥ 0) = true:=zQ (by omega)
      have hidx:decide ((i:Int) < (l0.length:Int)) = true:=zQ (by omega)
      have HDo:=zA hdo
      have HRs:=zA hrs
      clear hg ho hR2 hdo hrs e2 d1 d2 d3 d4 d5 d6 d7
      go_wp2_with fail
      refine HDo.out.mono ?_
      rintro e wd ⟨hbd,hm⟩
      cases hst:Pure.stepS l1 o stk with
      | error cc =>
       rw [hst] at hm
       obtain rfl:=hm
       have hr:=HH2.out
       rw [runS_err l1 l0 i cc (HRs.out.trans hst)] at hr
       obtain ⟨rfl,rfl⟩:=Prod.mk.inj hr
       have b1:=(hbd.block w.heap.size (by have:=HGM.out;omega)).trans C1.out
       have b2:=(hbd.block (w.heap.size + 1) (by have:=HGM.out;omega)).trans C2.out
       have k1:wd.cell? ⟨w.heap.size,0,none⟩ = some (.int .i64 0):=zI b1 0
       have k2:wd.cell? ⟨w.heap.size + 1,0,none⟩ = some (.int .i64 0):=zI b2 0
       have z1:wd.frozen? ⟨w.heap.size,0,none⟩ = false:=zJ b1 0
       have z2:wd.frozen? ⟨w.heap.size + 1,0,none⟩ = false:=zJ b2 0
       have HBD:=zA (HEnds.out wd 0 0 hbd)
       clear b1 b2 hbd hr hst
       refine leaves_cons (f:=76) (args:=#[.pointer (some ⟨w.heap.size,0,none⟩),.pointer (some ⟨w.heap.size + 1,0,none⟩)]) (by simp) (by simp [go_sem]) ?_
       refine (catchE_panicking w.heap.size (w.heap.size + 1) (by omega) _ [] wd k1 z1 k2 z2).mono ?_
       rintro e u' w'' ⟨rfl,rfl,hsame⟩
       have j1:w''.cell? ⟨w.heap.size,0,none⟩ = some (.int .i64 0):=by rw [hsame.cell];simp [go_sem,k1]
       have j2:w''.cell? ⟨w.heap.size + 1,0,none⟩ = some (.int .i64 cc):=by rw [hsame.cell];simp [go_sem,k2]
       simp [Leaves,settle,results,Tryd.results60,go_sem,j1,j2]
       exact Same.below ((HBD.out.setCell (Nat.le_refl _) _).setCell (by simp) _) hsame
      | ok s' =>
       rw [hst] at hm
       obtain ⟨rfl,v',hM'⟩:=hm
       have HM':=zA hM'
       have HRs':=zA (HRs.out.trans hst)
       have HBD:=zA (HBr.out.trans hbd)
       clear hM' hbd hst y0 y1
       go_wp2
       go_roundg i
       case measure=>omega
       case rel=>exact ⟨s',v',rfl,⟨by omega⟩,HRs',HM',HBD⟩
 ·have herb:(er != 0) = true:=by rw [bne_iff_ne];exact her
  rw [if_neg her] at h
  obtain ⟨rfl,rfl⟩:=Prod.mk.inj h
  go_enter_defers Tryd.func60,Tryd.ntmps60
  go_wp2_with fail
  rw [← hW2]
  refine HCk.out.mono ?_
  rintro e w1 ⟨rfl,hb⟩
  have b1:=(hb.block _ (blk_lt HA1.out)).trans HA1.out
  have b2:=(hb.block _ (blk_lt HA2.out)).trans HA2.out
  have k1:w1.cell? ⟨w.heap.size,0,none⟩ = some (.int .i64 0):=zI b1 0
  have k2:w1.cell? ⟨w.heap.size + 1,0,none⟩ = some (.int .i64 0):=zI b2 0
  have z1:w1.frozen? ⟨w.heap.size,0,none⟩ = false:=zJ b1 0
  have z2:w1.frozen? ⟨w.heap.size + 1,0,none⟩ = false:=zJ b2 0
  have HB1:=zA (zH HB2.out hb)
  clear hb b1 b2
  go_wp2
  simp [bodyPostD,Leaves,settle,results,Tryd.results60,go_sem,k1,k2]
  exact ((HB1.out.setCell (Nat.le_refl _) _).setCell (by simp) _)
end
def step_Letter.l0:Nat → List Int → List Bool → List (List (S94)) → Int → Int → Option (List Bool × Int)
 | 0,_,_,_,_,_=>none
 | k + 1,x9,x11,x34,x35,x36=>if x36 < x35 then (if 0 ≤ x36 then (if x36 < (x34.length:Int) then ((expr_Eval.f (rd_L4 x34 x36) x9).bind fun bt197=>(if bt197.2 = 0 then (if x36 < (x11.length:Int) then (step_Letter.l0 k x9 (x11.set (x36:Int).toNat (bt197.1 == 1)) x34 x35 (wrap64 (x36 + 1))) else (none)) else (if x36 < (x11.length:Int) then (step_Letter.l0 k x9 (x11.set (x36:Int).toNat false) x34 x35 (wrap64 (x36 + 1))) else (none)))) else (none)) else (none)) else (some (x11,0))
def step_Letter.f (k:Nat) (l0_0:List (S74)) (l0_1:List (S68)) (l1:List (List (S94))) (a2:Int):Option (List Bool × Int):=(model_Props.f k l0_0 l0_1 l1).bind fun t188=>(if t188 = 0 then ((model_Values.f k l0_0 l0_1 a2).bind fun bt189=>(if bt189.2 = 0 then (if 0 ≤ (l1.length:Int) then (if ((l1.length:Int):Int).toNat ≤ 281474976710656 then (step_Letter.l0 k bt189.1 (List.replicate ((l1.length:Int):Int).toNat false) l1 (l1.length:Int) 0) else (none)) else (none)) else (some (([]:List Bool),bt189.2)))) else (some (([]:List Bool),t188)))
theorem step_Letter.mono_l:∀ k,(∀ y0 y1 y2 y3 y4,LeO (step_Letter.l0 k y0 y1 y2 y3 y4) (step_Letter.l0 (k + 1) y0 y1 y2 y3 y4))
 | 0=>fun _ _ _ _ _ r h=>by simp [step_Letter.l0] at h
 | k + 1=>by
  have ih0:=step_Letter.mono_l k
  ·intro y0 y1 y2 y3 y4
   unfold step_Letter.l0
   repeat' first
   | (with_reducible exact ih0 _ _ _ _ _)
   | (with_reducible exact model_Props.mono _ _ _ _)
   | (with_reducible exact model_Values.mono _ _ _ _)
   | (with_reducible exact LeO.refl _)
   | (with_reducible exact LeO.none _)
   | (with_reducible refine LeO.ite ?_ ?_)
   | (with_reducible refine LeO.bind ?_ (fun _=>?_))
   | exact ih0 _ _ _ _ _
   | exact model_Props.mono _ _ _ _
   | exact model_Values.mono _ _ _ _
   | exact LeO.none _
   | refine LeO.ite ?_ ?_
   | refine LeO.bind ?_ (fun _=>?_)
theorem step_Letter.mono:∀ a0 a1 a2 a3 k,LeO (step_Letter.f k a0 a1 a2 a3) (step_Letter.f (k + 1) a0 a1 a2 a3):=by
 intro a0 a1 a2 a3 k
 have ih0:=step_Letter.mono_l k
 unfold step_Letter.f
 repeat' first
   | (with_reducible exact ih0 _ _ _ _ _)
   | (with_reducible exact model_Props.mono _ _ _ _)
   | (with_reducible exact model_Values.mono _ _ _ _)
   | (with_reducible exact LeO.refl _)
   | (with_reducible exact LeO.none _)
   | (with_reducible refine LeO.ite ?_ ?_)
   | (with_reducible refine LeO.bind ?_ (fun _=>?_))
   | exact ih0 _ _ _ _ _
   | exact model_Props.mono _ _ _ _
   | exact model_Values.mono _ _ _ _
   | exact LeO.none _
   | refine LeO.ite ?_ ?_
   | refine LeO.bind ?_ (fun _=>?_)
set_option maxHeartbeats 8000000 in
set_option maxRecDepth 100000 in
theorem step_Letter.calls (k:Nat) (A0_0:Option Addr) (c0_0:Nat) (l0_0:List (S74)) (A0_1:Option Addr) (c0_1:Nat) (l0_1:List (S68)) (A1:Option Addr) (c1:Nat) (l1:List (List (S94))) (a2:Int) (r1:List Bool) (r2:Int) (w:World) (hr0_0:Kd.C k74 w A0_0 l0_0.length l0_0) (hc0_0:l0_0.length ≤ c0_0) (hr0_1:Kd.C k68 w A0_1 l0_1.length l0_1) (hc0_1:l0_1.length ≤ c0_1) (hr1:Kd.C (Kd.slice 94 k94) w A1 l1.length l1) (hc1:l1.length ≤ c1) (hL:LaidG w) (h:step_Letter.f k l0_0 l0_1 l1 a2 = some (r1,r2)) :
  Calls Tryd.prog 36 #[.agg #[.slice A0_0 l0_0.length c0_0,.slice A0_1 l0_1.length c0_1],.slice A1 l1.length c1,.int .i64 a2] w fun e w'=>∃ v0_:Value,e = .returned (.tuple #[v0_,.int .i64 r2])∧Kd.R Kd.bool 4 w' w.heap.size (fun _=>True) v0_ r1∧Below w.heap.size w w':=by
 have HLd:=zA hL
 clear hL
 have hu25:=Tryd.underlying25
 have HR0_0:=zA hr0_0
 have HC0_0:=zA hc0_0
 clear hr0_0 hc0_0
 have HR0_1:=zA hr0_1
 have HC0_1:=zA hc0_1
 clear hr0_1 hc0_1
 have HR1:=zA hr1
 have HC1:=zA hc1
 clear hr1 hc1
 have HB:=zA (Below.refl w.heap.size w)
 have H:((model_Props.f k l0_0 l0_1 l1).bind fun t188=>(if t188 = 0 then ((model_Values.f k l0_0 l0_1 a2).bind fun bt189=>(if bt189.2 = 0 then (if 0 ≤ (l1.length:Int) then (if ((l1.length:Int):Int).toNat ≤ 281474976710656 then (step_Letter.l0 k bt189.1 (List.replicate ((l1.length:Int):Int).toNat false) l1 (l1.length:Int) 0) else (none)) else (none)) else (some (([]:List Bool),bt189.2)))) else (some (([]:List Bool),t188)))) = some (r1,r2):=h
 clear h
 replace H:=zb.mp H
 obtain ⟨t188,A40,H⟩:=H
 replace H:(if t188 = 0 then ((model_Values.f k l0_0 l0_1 a2).bind fun bt189=>(if bt189.2 = 0 then (if 0 ≤ (l1.length:Int) then (if ((l1.length:Int):Int).toNat ≤ 281474976710656 then (step_Letter.l0 k bt189.1 (List.replicate ((l1.length:Int):Int).toNat false) l1 (l1.length:Int) 0) else (none)) else (none)) else (some (([]:List Bool),bt189.2)))) else (some (([]:List Bool),t188))) = some (r1,r2):=H
 have A4:=zA A40
 clear A40
 by_cases c5:t188 = 0
 ·rw [if_pos c5] at H
  have c5b0:(t188 == 0) = true:=beq_iff_eq.mpr c5
  have c5b1:(t188 != 0) = false:=bne_eq_false_iff_eq.mpr c5
  clear c5
  replace H:=zb.mp H
  obtain ⟨⟨t189,t192⟩,A60,H⟩:=H
  replace H:(if t192 = 0 then (if 0 ≤ (l1.length:Int) then (if ((l1.length:Int):Int).toNat ≤ 281474976710656 then (step_Letter.l0 k t189 (List.replicate ((l1.length:Int):Int).toNat false) l1 (l1.length:Int) 0) else (none)) else (none)) else (some (([]:List Bool),t192))) = some (r1,r2):=H
  have A6:=zA A60
  clear A60
  by_cases c7:t192 = 0
  ·rw [if_pos c7] at H
   have c7b0:(t192 == 0) = true:=beq_iff_eq.mpr c7
   have c7b1:(t192 != 0) = false:=bne_eq_false_iff_eq.mpr c7
   clear c7
   by_cases c8:0 ≤ (l1.length:Int)
   ·rw [if_pos c8] at H
    have c8b0:=eq_true c8
    have c8b1:decide (0 ≤ (l1.length:Int)) = true:=zQ c8
    clear c8
    by_cases c9:((l1.length:Int):Int).toNat ≤ 281474976710656
    ·rw [if_pos c9] at H
     have c9b0:=eq_true c9
     have c9b1:decide (((l1.length:Int):Int).toNat ≤ 281474976710656) = true:=zQ c9
     clear c9
     obtain ⟨y193,hy193⟩:∃ y_:List Bool,y_ = (List.replicate ((l1.length:Int):Int).toNat false):=⟨_,rfl⟩
     replace H:(step_Letter.l0 k t189 y193 l1 (l1.length:Int) 0) = some (r1,r2):=by first|(rw [hy193];with_reducible exact H)|(have H2_:=(Option.bind_some _ _).symm.trans H;rw [hy193];with_reducible exact H2_)|(have H2_:=(Option.bind_some _ _).symm.trans H;with_reducible exact H2_)|with_reducible exact H|(rw [hy193];exact H)|exact H
     have Ny193:=zA hy193
     clear hy193
     have H':=zA H
     clear H
     go_enter Tryd.func36,Tryd.ntmps36
     go_wp2_with (first|((with_reducible refine zV (N:=3) rfl ?_);refine zW ?hg (N:=3) ?hd (cs:=#[.slice A0_0 l0_0.length c0_0,.slice A0_1 l0_1.length c0_1]) (t:=25) ?hr ?_;(case hd=>rfl);(case hg=>rfl);(case hr=>first|(go_simp;done)|(go_simp;rfl));intro gb187 hg w10 hbox hb;have n0_:=zA (zH (by repeat (first|(with_reducible first|exact HB.out|apply zD|apply zC|apply zE)|exact HB.out)) hb);have n1_:=zA (hbox);have n2_:=zA ((by rw [hg];exact (zG (by repeat (first|(with_reducible first|exact HB.out|apply zD|apply zC|apply zE)|exact HB.out))):w.heap.size ≤ gb187));have n3_:=zA ((by rw [hg];exact (zG (by repeat (first|(with_reducible first|exact HB.out|apply zD|apply zC|apply zE)|exact HB.out))):w.heap.size ≤ gb187));clear HB;have HB:=n0_;have BK187:=n1_;have GW187:=n2_;have GE187:=n3_;clear n0_ n1_ n2_ n3_;clear hb hbox hg;have hcz11_0:w10.cell? ⟨gb187,0,none⟩ = some (.slice A0_0 l0_0.length c0_0):=(zI BK187.out 0).trans rfl;have hcz11_1:w10.cell? ⟨gb187,1,none⟩ = some (.slice A0_1 l0_1.length c0_1):=(zI BK187.out 1).trans rfl;have hfz11_0:=zJ BK187.out 0;have hfz11_1:=zJ BK187.out 1)|((with_reducible refine zU (f:=21) rfl ?_);refine goesL_ (some 18) rfl rfl Tryd.func21 (by kernel_rfl) rfl #[.agg #[.slice A0_0 l0_0.length c0_0,.slice A0_1 l0_1.length c0_1],.slice A1 l1.length c1] rfl (by (try simp only [zx,zy,zz]);first|done|rfl|(simp only [zd,zt];rfl)) ?_;(with_reducible refine (model_Props.calls k _ _ l0_0 _ _ l0_1 _ _ l1 t188 _ ?side1 ?side2 ?side3 ?side4 ?side5 ?side6 ?side7 A4.out).mono ?_);(case side1=>repeat (first|exact (zT HR0_0.out HB.out)|(with_reducible refine Kd.C_alloc ?_ _)|(with_reducible refine Kd.C_drewN ?_ _)|(with_reducible refine Kd.C_drew ?_)));(case side2=>exact HC0_0.out);(case side3=>repeat (first|exact (zT HR0_1.out HB.out)|(with_reducible refine Kd.C_alloc ?_ _)|(with_reducible refine Kd.C_drewN ?_ _)|(with_reducible refine Kd.C_drew ?_)));(case side4=>exact HC0_1.out);(case side5=>repeat (first|exact (zT HR1.out HB.out)|(with_reducible refine Kd.C_alloc ?_ _)|(with_reducible refine Kd.C_drewN ?_ _)|(with_reducible refine Kd.C_drew ?_)));(case side6=>exact HC1.out);(case side7=>first|exact LaidG.below HLd.out (by repeat (first|(with_reducible first|exact HB.out|apply zD|apply zC|apply zE|refine zF ?_ GE187.out)|exact HB.out))|(refine LaidG.below HLd.out ?_;repeat (with_reducible first|exact HB.out|exact Below.refl _ _|apply zD|apply zC|apply zE);done));rintro e w12 ⟨rfl,hb⟩;refine ⟨_,rfl,?_⟩;have n0_:=zA (zN (g:=gb187) (o:=.cells #[.slice A0_0 l0_0.length c0_0,.slice A0_1 l0_1.length c0_1] 25 (0,0)) (by (with_reducible repeat (first|refine zL ?_ _|refine zM ?_|refine zK ?_ _));exact BK187.out) hb);have n1_:=zA (zH (by repeat (first|(with_reducible first|exact HB.out|apply zD|apply zC|apply zE|refine zF ?_ GE187.out)|exact HB.out)) hb);clear BK187;clear HB;have BK187:=n0_;have HB:=n1_;clear n0_ n1_;(try clear hb);(try clear hb2);(try clear hk);(try clear hi);have hcz13_0:w12.cell? ⟨gb187,0,none⟩ = some (.slice A0_0 l0_0.length c0_0):=(zI BK187.out 0).trans rfl;have hcz13_1:w12.cell? ⟨gb187,1,none⟩ = some (.slice A0_1 l0_1.length c0_1):=(zI BK187.out 1).trans rfl;have hfz13_0:=zJ BK187.out 0;have hfz13_1:=zJ BK187.out 1)|((with_reducible refine zU (f:=30) rfl ?_);refine goesL_ (some 25) rfl rfl Tryd.func30 (by kernel_rfl) rfl #[.agg #[.slice A0_0 l0_0.length c0_0,.slice A0_1 l0_1.length c0_1],.int .i64 a2] rfl (by (try simp only [zx,zy,zz]);first|done|rfl|(simp only [zd,zt];rfl)) ?_;(with_reducible refine (model_Values.calls k _ _ l0_0 _ _ l0_1 a2 t189 t192 _ ?side1 ?side2 ?side3 ?side4 ?side5 A6.out).mono ?_);(case side1=>repeat (first|exact (zT HR0_0.out HB.out)|(with_reducible refine Kd.C_alloc ?_ _)|(with_reducible refine Kd.C_drewN ?_ _)|(with_reducible refine Kd.C_drew ?_)));(case side2=>exact HC0_0.out);(case side3=>repeat (first|exact (zT HR0_1.out HB.out)|(with_reducible refine Kd.C_alloc ?_ _)|(with_reducible refine Kd.C_drewN ?_ _)|(with_reducible refine Kd.C_drew ?_)));(case side4=>exact HC0_1.out);(case side5=>first|exact LaidG.below HLd.out (by repeat (first|(with_reducible first|exact HB.out|apply zD|apply zC|apply zE|refine zF ?_ GE187.out)|exact HB.out))|(refine LaidG.below HLd.out ?_;repeat (with_reducible first|exact HB.out|exact Below.refl _ _|apply zD|apply zC|apply zE);done));rintro e w14 ⟨v190,rfl,ho0,hb⟩;refine ⟨_,rfl,?_⟩;have n0_:=zA (Kd.R_lower ho0 (zG (by repeat (first|(with_reducible first|exact HB.out|apply zD|apply zC|apply zE|refine zF ?_ GE187.out)|exact HB.out))));have n1_:=zA (zN (g:=gb187) (o:=.cells #[.slice A0_0 l0_0.length c0_0,.slice A0_1 l0_1.length c0_1] 25 (0,0)) (by (with_reducible repeat (first|refine zL ?_ _|refine zM ?_|refine zK ?_ _));exact BK187.out) hb);have n2_:=zA (zH (by repeat (first|(with_reducible first|exact HB.out|apply zD|apply zC|apply zE|refine zF ?_ GE187.out)|exact HB.out)) hb);clear BK187;clear HB;have HO191:=n0_;have BK187:=n1_;have HB:=n2_;clear n0_ n1_ n2_;(try clear hb);(try clear hb2);(try clear hk);(try clear hi);(try clear ho0))|((with_reducible refine zV (N:=33) rfl ?_);refine Kd.R_make Kd.bool _ 4 rfl (N:=33) rfl 52 _ _ rfl (l1.length:Int) rfl rfl Tryd.underlying52 (.bool false) 1 info4 rfl (by decide) (by omega) false (ok:=fun _=>True) (okp:=fun _=>True) rfl (fun _ hk=>hk) trivial (zP (by assumption)) (Nat.le_trans (Nat.mul_le_mul_right _ (zP (by assumption):(l1.length:Int).toNat ≤ 281474976710656)) (by omega)) (Below.refl _ _) (Nat.le_refl _) ?_;intro v194 w15 ho16 hb hg_ hnew_;clear hg_ hnew_;(first|rw [← Ny193.out] at ho16|(simp only [Int.reduceToNat] at ho16;rw [← Ny193.out] at ho16));have n0_:=zA (Kd.R_below (by (with_reducible repeat (first|apply Kd.R_alloc|apply Kd.R_drewN|apply Kd.R_drew));exact HO191.out) hb);have n1_:=zA (Kd.R_lower ho16 (zG (by repeat (first|(with_reducible first|exact HB.out|apply zD|apply zC|apply zE|refine zF ?_ GE187.out)|exact HB.out))));have n2_:=zA (zN (g:=gb187) (o:=.cells #[.slice A0_0 l0_0.length c0_0,.slice A0_1 l0_1.length c0_1] 25 (0,0)) (by (with_reducible repeat (first|refine zL ?_ _|refine zM ?_|refine zK ?_ _));exact BK187.out) hb);have n3_:=zA (zH (by repeat (first|(with_reducible first|exact HB.out|apply zD|apply zC|apply zE|refine zF ?_ GE187.out)|exact HB.out)) hb);clear HO191;clear BK187;clear HB;have HO191:=n0_;have HO195:=n1_;have BK187:=n2_;have HB:=n3_;clear n0_ n1_ n2_ n3_;clear hb ho16))
     go_loopg [36] k (fun kq v36 w'=>∃ (x11_1:List Bool) (x36_1:Int),v36 = .int .i64 x36_1∧Aside0 (step_Letter.l0 kq t189 x11_1 l1 (l1.length:Int) x36_1 = some (r1,r2))∧Aside0 (kq ≤ k)∧Aside0 (Kd.R (Kd.int .i64) 3 w' w.heap.size (fun _=>True) v190 t189)∧Aside0 (Kd.R Kd.bool 4 w' w.heap.size (fun _=>True) v194 x11_1)∧Aside0 (w'.heap[gb187]? = some (.cells #[(.slice A0_0 l0_0.length c0_0),(.slice A0_1 l0_1.length c0_1)] 25 (0,0)))∧Aside0 (Below w.heap.size w w'))
     case atStart=>exact ⟨(y193),(0),(by first|rfl|(simp;done)|(simp [*];done)),H',⟨Nat.le_refl _⟩,⟨by (with_reducible repeat (first|apply Kd.R_alloc|apply Kd.R_drewN|apply Kd.R_drew));exact HO191.out⟩,⟨by (with_reducible repeat (first|apply Kd.R_alloc|apply Kd.R_drewN|apply Kd.R_drew));exact HO195.out⟩,⟨by (with_reducible repeat (first|refine zL ?_ _|refine zM ?_|refine zK ?_ _));exact BK187.out⟩,⟨by repeat (first|(with_reducible first|exact HB.out|apply zD|apply zC|apply zE|refine zF ?_ GE187.out)|exact HB.out)⟩⟩
     case round =>
      clear H'
      try clear c1
      try clear c2
      try clear p2
      try clear c3
      try clear c5
      try clear c5b0
      try clear c5b1
      try clear c7
      try clear c7b0
      try clear c7b1
      try clear c8
      try clear c8b0
      try clear c8b1
      try clear c9
      try clear c9b0
      try clear c9b1
      try clear hcz11_0
      try clear hcz11_1
      try clear hcz13_0
      try clear hcz13_1
      try clear hfz11_0
      try clear hfz11_1
      try clear hfz13_0
      try clear hfz13_1
      obtain ⟨x11_1,x36_1,rfl,HA,HK1,HO_9,HO_11,BK187,HB⟩:=hrel
      cases gk with
      | zero=>exact absurd HA.out (by simp [step_Letter.l0])
      | succ k1 =>
       have H:=HA.out
       clear HA
       simp only [step_Letter.l0] at H
       by_cases c17:x36_1 < (l1.length:Int)
       ·rw [if_pos c17] at H
        have c17b0:decide (x36_1 < (l1.length:Int)) = true:=zQ c17
        clear c17
        by_cases c18:0 ≤ x36_1
        ·rw [if_pos c18] at H
         have c18b0:decide (0 ≤ x36_1) = true:=zQ c18
         clear c18
         by_cases c19:x36_1 < (l1.length:Int)
         ·rw [if_pos c19] at H
          have c19b0:decide (x36_1 < (l1.length:Int)) = true:=zQ c19
          clear c19
          replace H:=zb.mp H
          obtain ⟨⟨t197,t198⟩,A200,H⟩:=H
          replace H:(if t198 = 0 then (if x36_1 < (x11_1.length:Int) then (step_Letter.l0 k1 t189 (x11_1.set (x36_1:Int).toNat (t197 == 1)) l1 (l1.length:Int) (wrap64 (x36_1 + 1))) else (none)) else (if x36_1 < (x11_1.length:Int) then (step_Letter.l0 k1 t189 (x11_1.set (x36_1:Int).toNat false) l1 (l1.length:Int) (wrap64 (x36_1 + 1))) else (none))) = some (r1,r2):=H
          have A20:=zA A200
          clear A200
          by_cases c21:t198 = 0
          ·rw [if_pos c21] at H
           have c21b0:(t198 == 0) = true:=beq_iff_eq.mpr c21
           have c21b1:(t198 != 0) = false:=bne_eq_false_iff_eq.mpr c21
           clear c21
           by_cases c22:x36_1 < (x11_1.length:Int)
           ·rw [if_pos c22] at H
            have c22b0:decide (x36_1 < (x11_1.length:Int)) = true:=zQ c22
            clear c22
            obtain ⟨y199,hy199⟩:∃ y_:List Bool,y_ = (x11_1.set (x36_1:Int).toNat (t197 == 1)):=⟨_,rfl⟩
            replace H:(step_Letter.l0 k1 t189 y199 l1 (l1.length:Int) (wrap64 (x36_1 + 1))) = some (r1,r2):=by first|(rw [hy199];with_reducible exact H)|(have H2_:=(Option.bind_some _ _).symm.trans H;rw [hy199];with_reducible exact H2_)|(have H2_:=(Option.bind_some _ _).symm.trans H;with_reducible exact H2_)|with_reducible exact H|(rw [hy199];exact H)|exact H
            have Ny199:=zA hy199
            clear hy199
            have H':=zA H
            clear H
            have p196:0 ≤ (x36_1:Int):=zP (by assumption)
            have q196:x36_1 < (l1.length:Int):=zP (by assumption)
            obtain ⟨ad196,A196_0,c196_0,e196,hx196_0,hl196_0,hi196_0⟩:=at_L4 HR1.out x36_1 p196 q196
            cases e196
            replace hx196_0:=(HB.out.cell (zB w _ hx196_0)).trans hx196_0
            have HR196_0:=zA hi196_0
            have HC196_0:=zA hl196_0
            clear hi196_0 hl196_0
            replace p196:=eq_true p196
            replace q196:=eq_true q196
            obtain ⟨Ao24,co24,eo24⟩:=Kd.R_slice HO_9.out
            subst eo24
            go_wp2_with (first|((with_reducible refine zU (f:=60) rfl ?_);refine goesL_ (some 44) rfl rfl Tryd.func60 (by kernel_rfl) rfl #[.slice A196_0 (rd_L4 l1 x36_1).length c196_0,.slice Ao24 t189.length co24] rfl (by (try simp only [zx,zy,zz]);first|done|rfl|(simp only [zd,zt];rfl)) ?_;(with_reducible refine (expr_Eval.calls _ _ (rd_L4 l1 x36_1) _ _ t189 t197 t198 _ ?side1 ?side2 ?side3 ?side4 ?side5 A20.out).mono ?_);(case side1=>repeat (first|exact (zT HR196_0.out HB.out)|(with_reducible refine Kd.C_alloc ?_ _)|(with_reducible refine Kd.C_drewN ?_ _)|(with_reducible refine Kd.C_drew ?_)));(case side2=>exact HC196_0.out);(case side3=>repeat (first|exact (Kd.R_reads' HO_9.out).2.2|(with_reducible refine Kd.C_alloc ?_ _)|(with_reducible refine Kd.C_drewN ?_ _)|(with_reducible refine Kd.C_drew ?_)));(case side4=>exact (Kd.R_reads' HO_9.out).2.1);(case side5=>first|exact LaidG.below HLd.out (by repeat (first|(with_reducible first|exact HB.out|apply zD|apply zC|apply zE|refine zF ?_ GE187.out)|exact HB.out))|(refine LaidG.below HLd.out ?_;repeat (with_reducible first|exact HB.out|exact Below.refl _ _|apply zD|apply zC|apply zE);done));rintro e w25 ⟨rfl,hb⟩;refine ⟨_,rfl,?_⟩;have n0_:=zA (Kd.R_below (by (with_reducible repeat (first|apply Kd.R_alloc|apply Kd.R_drewN|apply Kd.R_drew));exact HO_9.out) hb);have n1_:=zA (Kd.R_below (by (with_reducible repeat (first|apply Kd.R_alloc|apply Kd.R_drewN|apply Kd.R_drew));exact HO_11.out) hb);have n2_:=zA (zN (g:=gb187) (o:=.cells #[.slice A0_0 l0_0.length c0_0,.slice A0_1 l0_1.length c0_1] 25 (0,0)) (by (with_reducible repeat (first|refine zL ?_ _|refine zM ?_|refine zK ?_ _));exact BK187.out) hb);have n3_:=zA (zH (by repeat (first|(with_reducible first|exact HB.out|apply zD|apply zC|apply zE|refine zF ?_ GE187.out)|exact HB.out)) hb);clear HO_9;clear HO_11;clear BK187;clear HB;have HO_9:=n0_;have HO_11:=n1_;have BK187:=n2_;have HB:=n3_;clear n0_ n1_ n2_ n3_;(try clear hb);(try clear hb2);(try clear hk);(try clear hi);have p23:0 ≤ (x36_1:Int):=zP (by assumption);have q23:(x36_1:Int) < ((x11_1.length:Int):Int):=zP (by assumption);obtain ⟨go23,co23,eo23,gb23,gl23,cl23,HG23⟩:=Kd.R_form HO_11.out (by omega);(first|cases eo23|(injection eo23 with ea_ en_ ec_;(first|subst ea_|(injection ea_ with ea_;subst ea_));subst ec_;clear en_));have GB23:=zA gb23;have GG23:=zA HG23;clear gb23 gl23 HG23;obtain ⟨hx23_0,hf23_0⟩:=Kd.R_celln false HO_11.out (x36_1:Int) p23 q23;replace p23:=eq_true p23;replace q23:=eq_true q23;obtain ⟨hy26_,hz26_⟩:=Kd.R_celln false HO_11.out (x36_1:Int) (zP (by assumption)) (zP (by assumption));have HP26:=Kd.R_putg HO_11.out (x36_1:Int) (t197 == 1))|((with_reducible refine gate_store (t:=4) (p:=55) rfl ?_);refine store_event (t:=4) (p:=55) (v:=?vo_w27) (w1:=(w25.setCell ⟨go23,(x36_1:Int).toNat,none⟩ (.bool (t197 == 1)))) ?hg ?ho ?hn ?hr ?_;(case ho=>rfl);(case hg=>rfl);(case hn=>rfl);(case hr=>first|(go_simp;done)|(go_simp;rfl));intro w27 hw;have hg:w25.grownBy w27 (some go23):=(by rw [hw];exact HP26.2);have hp_:Kd.R Kd.bool 4 w27 w.heap.size (fun _=>True) (.slice (some ⟨go23,0,none⟩) x11_1.length co23) y199:=(by rw [hw,Ny199.out];exact HP26.1);clear HP26;have n0_:=zA (Kd.R_over' (v:=(.slice (some ⟨go23,0,none⟩) x11_1.length co23)) (by (with_reducible repeat (first|apply Kd.R_alloc|apply Kd.R_drewN|apply Kd.R_drew));exact HO_9.out) (Kd.R_typed HO_11.out) (by decide) hg);have n1_:=zA (hp_);have n2_:=zA (blk_grown (g:=gb187) (o:=.cells #[.slice A0_0 l0_0.length c0_0,.slice A0_1 l0_1.length c0_1] 25 (0,0)) (by (with_reducible repeat (first|refine zL ?_ _|refine zM ?_|refine zK ?_ _));exact BK187.out) hg (Kd.R_ne HO_11.out BK187.out (by decide)));have n3_:=zA ((by rw [hw];exact zF (HB.out) GB23.out:Below w.heap.size w w27));clear HO_9;clear HO_11;clear BK187;clear HB;have HO_9:=n0_;have HO_11:=n1_;have BK187:=n2_;have HB:=n3_;clear n0_ n1_ n2_ n3_;clear hg hw hp_))
            go_roundg k1
            case measure=>have:=HK1.out;omega
            case rel=>exact ⟨(y199),(wrap64 (x36_1 + 1)),(by first|rfl|(simp;done)|(simp [*];done)),H',⟨by have:=HK1.out;omega⟩,⟨by (with_reducible repeat (first|apply Kd.R_alloc|apply Kd.R_drewN|apply Kd.R_drew));exact HO_9.out⟩,⟨by (with_reducible repeat (first|apply Kd.R_alloc|apply Kd.R_drewN|apply Kd.R_drew));exact HO_11.out⟩,⟨by (with_reducible repeat (first|refine zL ?_ _|refine zM ?_|refine zK ?_ _));exact BK187.out⟩,⟨by repeat (first|(with_reducible first|exact HB.out|apply zD|apply zC|apply zE|refine zF ?_ GE187.out)|exact HB.out)⟩⟩
           ·rw [if_neg c22] at H
            exact absurd H (by simp)
          ·rw [if_neg c21] at H
           have c21b0:(t198 == 0) = false:=beq_eq_false_iff_ne.mpr c21
           have c21b1:(t198 != 0) = true:=bne_iff_ne.mpr c21
           by_cases c28:x36_1 < (x11_1.length:Int)
           ·rw [if_pos c28] at H
            have c28b0:decide (x36_1 < (x11_1.length:Int)) = true:=zQ c28
            clear c28
            obtain ⟨y200,hy200⟩:∃ y_:List Bool,y_ = (x11_1.set (x36_1:Int).toNat false):=⟨_,rfl⟩
            replace H:(step_Letter.l0 k1 t189 y200 l1 (l1.length:Int) (wrap64 (x36_1 + 1))) = some (r1,r2):=by first|(rw [hy200];with_reducible exact H)|(have H2_:=(Option.bind_some _ _).symm.trans H;rw [hy200];with_reducible exact H2_)|(have H2_:=(Option.bind_some _ _).symm.trans H;with_reducible exact H2_)|with_reducible exact H|(rw [hy200];exact H)|exact H
            have Ny200:=zA hy200
            clear hy200
            have H':=zA H
            clear H
            have p196:0 ≤ (x36_1:Int):=zP (by assumption)
            have q196:x36_1 < (l1.length:Int):=zP (by assumption)
            obtain ⟨ad196,A196_0,c196_0,e196,hx196_0,hl196_0,hi196_0⟩:=at_L4 HR1.out x36_1 p196 q196
            cases e196
            replace hx196_0:=(HB.out.cell (zB w _ hx196_0)).trans hx196_0
            have HR196_0:=zA hi196_0
            have HC196_0:=zA hl196_0
            clear hi196_0 hl196_0
            replace p196:=eq_true p196
            replace q196:=eq_true q196
            obtain ⟨Ao30,co30,eo30⟩:=Kd.R_slice HO_9.out
            subst eo30
            go_wp2_with (first|((with_reducible refine zU (f:=60) rfl ?_);refine goesL_ (some 44) rfl rfl Tryd.func60 (by kernel_rfl) rfl #[.slice A196_0 (rd_L4 l1 x36_1).length c196_0,.slice Ao30 t189.length co30] rfl (by (try simp only [zx,zy,zz]);first|done|rfl|(simp only [zd,zt];rfl)) ?_;(with_reducible refine (expr_Eval.calls _ _ (rd_L4 l1 x36_1) _ _ t189 t197 t198 _ ?side1 ?side2 ?side3 ?side4 ?side5 A20.out).mono ?_);(case side1=>repeat (first|exact (zT HR196_0.out HB.out)|(with_reducible refine Kd.C_alloc ?_ _)|(with_reducible refine Kd.C_drewN ?_ _)|(with_reducible refine Kd.C_drew ?_)));(case side2=>exact HC196_0.out);(case side3=>repeat (first|exact (Kd.R_reads' HO_9.out).2.2|(with_reducible refine Kd.C_alloc ?_ _)|(with_reducible refine Kd.C_drewN ?_ _)|(with_reducible refine Kd.C_drew ?_)));(case side4=>exact (Kd.R_reads' HO_9.out).2.1);(case side5=>first|exact LaidG.below HLd.out (by repeat (first|(with_reducible first|exact HB.out|apply zD|apply zC|apply zE|refine zF ?_ GE187.out)|exact HB.out))|(refine LaidG.below HLd.out ?_;repeat (with_reducible first|exact HB.out|exact Below.refl _ _|apply zD|apply zC|apply zE);done));rintro e w31 ⟨rfl,hb⟩;refine ⟨_,rfl,?_⟩;have n0_:=zA (Kd.R_below (by (with_reducible repeat (first|apply Kd.R_alloc|apply Kd.R_drewN|apply Kd.R_drew));exact HO_9.out) hb);have n1_:=zA (Kd.R_below (by (with_reducible repeat (first|apply Kd.R_alloc|apply Kd.R_drewN|apply Kd.R_drew));exact HO_11.out) hb);have n2_:=zA (zN (g:=gb187) (o:=.cells #[.slice A0_0 l0_0.length c0_0,.slice A0_1 l0_1.length c0_1] 25 (0,0)) (by (with_reducible repeat (first|refine zL ?_ _|refine zM ?_|refine zK ?_ _));exact BK187.out) hb);have n3_:=zA (zH (by repeat (first|(with_reducible first|exact HB.out|apply zD|apply zC|apply zE|refine zF ?_ GE187.out)|exact HB.out)) hb);clear HO_9;clear HO_11;clear BK187;clear HB;have HO_9:=n0_;have HO_11:=n1_;have BK187:=n2_;have HB:=n3_;clear n0_ n1_ n2_ n3_;(try clear hb);(try clear hb2);(try clear hk);(try clear hi);have p29:0 ≤ (x36_1:Int):=zP (by assumption);have q29:(x36_1:Int) < ((x11_1.length:Int):Int):=zP (by assumption);obtain ⟨go29,co29,eo29,gb29,gl29,cl29,HG29⟩:=Kd.R_form HO_11.out (by omega);(first|cases eo29|(injection eo29 with ea_ en_ ec_;(first|subst ea_|(injection ea_ with ea_;subst ea_));subst ec_;clear en_));have GB29:=zA gb29;have GG29:=zA HG29;clear gb29 gl29 HG29;obtain ⟨hx29_0,hf29_0⟩:=Kd.R_celln false HO_11.out (x36_1:Int) p29 q29;replace p29:=eq_true p29;replace q29:=eq_true q29;obtain ⟨hy32_,hz32_⟩:=Kd.R_celln false HO_11.out (x36_1:Int) (zP (by assumption)) (zP (by assumption));have HP32:=Kd.R_putg HO_11.out (x36_1:Int) false)|((with_reducible refine gate_store (t:=4) (p:=55) rfl ?_);refine store_event (t:=4) (p:=55) (v:=?vo_w33) (w1:=(w31.setCell ⟨go29,(x36_1:Int).toNat,none⟩ (.bool false))) ?hg ?ho ?hn ?hr ?_;(case ho=>rfl);(case hg=>rfl);(case hn=>rfl);(case hr=>first|(go_simp;done)|(go_simp;rfl));intro w33 hw;have hg:w31.grownBy w33 (some go29):=(by rw [hw];exact HP32.2);have hp_:Kd.R Kd.bool 4 w33 w.heap.size (fun _=>True) (.slice (some ⟨go29,0,none⟩) x11_1.length co29) y200:=(by rw [hw,Ny200.out];exact HP32.1);clear HP32;have n0_:=zA (Kd.R_over' (v:=(.slice (some ⟨go29,0,none⟩) x11_1.length co29)) (by (with_reducible repeat (first|apply Kd.R_alloc|apply Kd.R_drewN|apply Kd.R_drew));exact HO_9.out) (Kd.R_typed HO_11.out) (by decide) hg);have n1_:=zA (hp_);have n2_:=zA (blk_grown (g:=gb187) (o:=.cells #[.slice A0_0 l0_0.length c0_0,.slice A0_1 l0_1.length c0_1] 25 (0,0)) (by (with_reducible repeat (first|refine zL ?_ _|refine zM ?_|refine zK ?_ _));exact BK187.out) hg (Kd.R_ne HO_11.out BK187.out (by decide)));have n3_:=zA ((by rw [hw];exact zF (HB.out) GB29.out:Below w.heap.size w w33));clear HO_9;clear HO_11;clear BK187;clear HB;have HO_9:=n0_;have HO_11:=n1_;have BK187:=n2_;have HB:=n3_;clear n0_ n1_ n2_ n3_;clear hg hw hp_))
            go_roundg k1
            case measure=>have:=HK1.out;omega
            case rel=>exact ⟨(y200),(wrap64 (x36_1 + 1)),(by first|rfl|(simp;done)|(simp [*];done)),H',⟨by have:=HK1.out;omega⟩,⟨by (with_reducible repeat (first|apply Kd.R_alloc|apply Kd.R_drewN|apply Kd.R_drew));exact HO_9.out⟩,⟨by (with_reducible repeat (first|apply Kd.R_alloc|apply Kd.R_drewN|apply Kd.R_drew));exact HO_11.out⟩,⟨by (with_reducible repeat (first|refine zL ?_ _|refine zM ?_|refine zK ?_ _));exact BK187.out⟩,⟨by repeat (first|(with_reducible first|exact HB.out|apply zD|apply zC|apply zE|refine zF ?_ GE187.out)|exact HB.out)⟩⟩
           ·rw [if_neg c28] at H
            exact absurd H (by simp)
         ·rw [if_neg c19] at H
          exact absurd H (by simp)
        ·rw [if_neg c18] at H
         exact absurd H (by simp)
       ·rw [if_neg c17] at H
        have c17b0:decide (x36_1 < (l1.length:Int)) = false:=zR c17
        clear c17
        simp only [Option.some.injEq,Prod.mk.injEq] at H
        obtain ⟨rfl,rfl⟩:=H
        go_wp2
        go_ret2
        exact ⟨_,by first|rfl|(simp [errW_none,errW_some] <;> rfl)|(simp [*,errW_none,errW_some] <;> rfl),by (with_reducible repeat (first|apply Kd.R_alloc|apply Kd.R_drewN|apply Kd.R_drew));exact HO_11.out,by repeat (first|(with_reducible first|exact HB.out|apply zD|apply zC|apply zE|refine zF ?_ GE187.out)|exact HB.out)⟩
    ·rw [if_neg c9] at H
     exact absurd H (by simp)
   ·rw [if_neg c8] at H
    exact absurd H (by simp)
  ·rw [if_neg c7] at H
   have c7b0:(t192 == 0) = false:=beq_eq_false_iff_ne.mpr c7
   have c7b1:(t192 != 0) = true:=bne_iff_ne.mpr c7
   simp only [Option.some.injEq,Prod.mk.injEq] at H
   obtain ⟨rfl,rfl⟩:=H
   go_enter Tryd.func36,Tryd.ntmps36
   go_wp2_with (first|((with_reducible refine zV (N:=3) rfl ?_);refine zW ?hg (N:=3) ?hd (cs:=#[.slice A0_0 l0_0.length c0_0,.slice A0_1 l0_1.length c0_1]) (t:=25) ?hr ?_;(case hd=>rfl);(case hg=>rfl);(case hr=>first|(go_simp;done)|(go_simp;rfl));intro gb187 hg w34 hbox hb;have n0_:=zA (zH (by repeat (first|(with_reducible first|exact HB.out|apply zD|apply zC|apply zE)|exact HB.out)) hb);have n1_:=zA (hbox);have n2_:=zA ((by rw [hg];exact (zG (by repeat (first|(with_reducible first|exact HB.out|apply zD|apply zC|apply zE)|exact HB.out))):w.heap.size ≤ gb187));have n3_:=zA ((by rw [hg];exact (zG (by repeat (first|(with_reducible first|exact HB.out|apply zD|apply zC|apply zE)|exact HB.out))):w.heap.size ≤ gb187));clear HB;have HB:=n0_;have BK187:=n1_;have GW187:=n2_;have GE187:=n3_;clear n0_ n1_ n2_ n3_;clear hb hbox hg;have hcz35_0:w34.cell? ⟨gb187,0,none⟩ = some (.slice A0_0 l0_0.length c0_0):=(zI BK187.out 0).trans rfl;have hcz35_1:w34.cell? ⟨gb187,1,none⟩ = some (.slice A0_1 l0_1.length c0_1):=(zI BK187.out 1).trans rfl;have hfz35_0:=zJ BK187.out 0;have hfz35_1:=zJ BK187.out 1)|((with_reducible refine zU (f:=21) rfl ?_);refine goesL_ (some 18) rfl rfl Tryd.func21 (by kernel_rfl) rfl #[.agg #[.slice A0_0 l0_0.length c0_0,.slice A0_1 l0_1.length c0_1],.slice A1 l1.length c1] rfl (by (try simp only [zx,zy,zz]);first|done|rfl|(simp only [zd,zt];rfl)) ?_;(with_reducible refine (model_Props.calls k _ _ l0_0 _ _ l0_1 _ _ l1 t188 _ ?side1 ?side2 ?side3 ?side4 ?side5 ?side6 ?side7 A4.out).mono ?_);(case side1=>repeat (first|exact (zT HR0_0.out HB.out)|(with_reducible refine Kd.C_alloc ?_ _)|(with_reducible refine Kd.C_drewN ?_ _)|(with_reducible refine Kd.C_drew ?_)));(case side2=>exact HC0_0.out);(case side3=>repeat (first|exact (zT HR0_1.out HB.out)|(with_reducible refine Kd.C_alloc ?_ _)|(with_reducible refine Kd.C_drewN ?_ _)|(with_reducible refine Kd.C_drew ?_)));(case side4=>exact HC0_1.out);(case side5=>repeat (first|exact (zT HR1.out HB.out)|(with_reducible refine Kd.C_alloc ?_ _)|(with_reducible refine Kd.C_drewN ?_ _)|(with_reducible refine Kd.C_drew ?_)));(case side6=>exact HC1.out);(case side7=>first|exact LaidG.below HLd.out (by repeat (first|(with_reducible first|exact HB.out|apply zD|apply zC|apply zE|refine zF ?_ GE187.out)|exact HB.out))|(refine LaidG.below HLd.out ?_;repeat (with_reducible first|exact HB.out|exact Below.refl _ _|apply zD|apply zC|apply zE);done));rintro e w36 ⟨rfl,hb⟩;refine ⟨_,rfl,?_⟩;have n0_:=zA (zN (g:=gb187) (o:=.cells #[.slice A0_0 l0_0.length c0_0,.slice A0_1 l0_1.length c0_1] 25 (0,0)) (by (with_reducible repeat (first|refine zL ?_ _|refine zM ?_|refine zK ?_ _));exact BK187.out) hb);have n1_:=zA (zH (by repeat (first|(with_reducible first|exact HB.out|apply zD|apply zC|apply zE|refine zF ?_ GE187.out)|exact HB.out)) hb);clear BK187;clear HB;have BK187:=n0_;have HB:=n1_;clear n0_ n1_;(try clear hb);(try clear hb2);(try clear hk);(try clear hi);have hcz37_0:w36.cell? ⟨gb187,0,none⟩ = some (.slice A0_0 l0_0.length c0_0):=(zI BK187.out 0).trans rfl;have hcz37_1:w36.cell? ⟨gb187,1,none⟩ = some (.slice A0_1 l0_1.length c0_1):=(zI BK187.out 1).trans rfl;have hfz37_0:=zJ BK187.out 0;have hfz37_1:=zJ BK187.out 1)|((with_reducible refine zU (f:=30) rfl ?_);refine goesL_ (some 25) rfl rfl Tryd.func30 (by kernel_rfl) rfl #[.agg #[.slice A0_0 l0_0.length c0_0,.slice A0_1 l0_1.length c0_1],.int .i64 a2] rfl (by (try simp only [zx,zy,zz]);first|done|rfl|(simp only [zd,zt];rfl)) ?_;(with_reducible refine (model_Values.calls k _ _ l0_0 _ _ l0_1 a2 t189 t192 _ ?side1 ?side2 ?side3 ?side4 ?side5 A6.out).mono ?_);(case side1=>repeat (first|exact (zT HR0_0.out HB.out)|(with_reducible refine Kd.C_alloc ?_ _)|(with_reducible refine Kd.C_drewN ?_ _)|(with_reducible refine Kd.C_drew ?_)));(case side2=>exact HC0_0.out);(case side3=>repeat (first|exact (zT HR0_1.out HB.out)|(with_reducible refine Kd.C_alloc ?_ _)|(with_reducible refine Kd.C_drewN ?_ _)|(with_reducible refine Kd.C_drew ?_)));(case side4=>exact HC0_1.out);(case side5=>first|exact LaidG.below HLd.out (by repeat (first|(with_reducible first|exact HB.out|apply zD|apply zC|apply zE|refine zF ?_ GE187.out)|exact HB.out))|(refine LaidG.below HLd.out ?_;repeat (with_reducible first|exact HB.out|exact Below.refl _ _|apply zD|apply zC|apply zE);done));rintro e w38 ⟨v190,rfl,ho0,hb⟩;refine ⟨_,rfl,?_⟩;have n0_:=zA (Kd.R_lower ho0 (zG (by repeat (first|(with_reducible first|exact HB.out|apply zD|apply zC|apply zE|refine zF ?_ GE187.out)|exact HB.out))));have n1_:=zA (zN (g:=gb187) (o:=.cells #[.slice A0_0 l0_0.length c0_0,.slice A0_1 l0_1.length c0_1] 25 (0,0)) (by (with_reducible repeat (first|refine zL ?_ _|refine zM ?_|refine zK ?_ _));exact BK187.out) hb);have n2_:=zA (zH (by repeat (first|(with_reducible first|exact HB.out|apply zD|apply zC|apply zE|refine zF ?_ GE187.out)|exact HB.out)) hb);clear BK187;clear HB;have HO191:=n0_;have BK187:=n1_;have HB:=n2_;clear n0_ n1_ n2_;(try clear hb);(try clear hb2);(try clear hk);(try clear hi);(try clear ho0)))
   go_ret2
   exact ⟨_,by first|rfl|(simp [errW_none,errW_some] <;> rfl)|(simp [*,errW_none,errW_some] <;> rfl),by first|exact Kd.R_nil _ _ _ _ _|exact Kd.N_nil _ _ _ _ _|exact Kd.V_nil _ _ _ _ _|exact Kd.Q_nil _ _ _ _ _|exact Kd.S_nil _ _ _ _ _,by repeat (first|(with_reducible first|exact HB.out|apply zD|apply zC|apply zE|refine zF ?_ GE187.out)|exact HB.out)⟩
 ·rw [if_neg c5] at H
  have c5b0:(t188 == 0) = false:=beq_eq_false_iff_ne.mpr c5
  have c5b1:(t188 != 0) = true:=bne_iff_ne.mpr c5
  simp only [Option.some.injEq,Prod.mk.injEq] at H
  obtain ⟨rfl,rfl⟩:=H
  go_enter Tryd.func36,Tryd.ntmps36
  go_wp2_with (first|((with_reducible refine zV (N:=3) rfl ?_);refine zW ?hg (N:=3) ?hd (cs:=#[.slice A0_0 l0_0.length c0_0,.slice A0_1 l0_1.length c0_1]) (t:=25) ?hr ?_;(case hd=>rfl);(case hg=>rfl);(case hr=>first|(go_simp;done)|(go_simp;rfl));intro gb187 hg w39 hbox hb;have n0_:=zA (zH (by repeat (first|(with_reducible first|exact HB.out|apply zD|apply zC|apply zE)|exact HB.out)) hb);have n1_:=zA (hbox);have n2_:=zA ((by rw [hg];exact (zG (by repeat (first|(with_reducible first|exact HB.out|apply zD|apply zC|apply zE)|exact HB.out))):w.heap.size ≤ gb187));have n3_:=zA ((by rw [hg];exact (zG (by repeat (first|(with_reducible first|exact HB.out|apply zD|apply zC|apply zE)|exact HB.out))):w.heap.size ≤ gb187));clear HB;have HB:=n0_;have BK187:=n1_;have GW187:=n2_;have GE187:=n3_;clear n0_ n1_ n2_ n3_;clear hb hbox hg;have hcz40_0:w39.cell? ⟨gb187,0,none⟩ = some (.slice A0_0 l0_0.length c0_0):=(zI BK187.out 0).trans rfl;have hcz40_1:w39.cell? ⟨gb187,1,none⟩ = some (.slice A0_1 l0_1.length c0_1):=(zI BK187.out 1).trans rfl;have hfz40_0:=zJ BK187.out 0;have hfz40_1:=zJ BK187.out 1)|((with_reducible refine zU (f:=21) rfl ?_);refine goesL_ (some 18) rfl rfl Tryd.func21 (by kernel_rfl) rfl #[.agg #[.slice A0_0 l0_0.length c0_0,.slice A0_1 l0_1.length c0_1],.slice A1 l1.length c1] rfl (by (try simp only [zx,zy,zz]);first|done|rfl|(simp only [zd,zt];rfl)) ?_;(with_reducible refine (model_Props.calls k _ _ l0_0 _ _ l0_1 _ _ l1 t188 _ ?side1 ?side2 ?side3 ?side4 ?side5 ?side6 ?side7 A4.out).mono ?_);(case side1=>repeat (first|exact (zT HR0_0.out HB.out)|(with_reducible refine Kd.C_alloc ?_ _)|(with_reducible refine Kd.C_drewN ?_ _)|(with_reducible refine Kd.C_drew ?_)));(case side2=>exact HC0_0.out);(case side3=>repeat (first|exact (zT HR0_1.out HB.out)|(with_reducible refine Kd.C_alloc ?_ _)|(with_reducible refine Kd.C_drewN ?_ _)|(with_reducible refine Kd.C_drew ?_)));(case side4=>exact HC0_1.out);(case side5=>repeat (first|exact (zT HR1.out HB.out)|(with_reducible refine Kd.C_alloc ?_ _)|(with_reducible refine Kd.C_drewN ?_ _)|(with_reducible refine Kd.C_drew ?_)));(case side6=>exact HC1.out);(case side7=>first|exact LaidG.below HLd.out (by repeat (first|(with_reducible first|exact HB.out|apply zD|apply zC|apply zE|refine zF ?_ GE187.out)|exact HB.out))|(refine LaidG.below HLd.out ?_;repeat (with_reducible first|exact HB.out|exact Below.refl _ _|apply zD|apply zC|apply zE);done));rintro e w41 ⟨rfl,hb⟩;refine ⟨_,rfl,?_⟩;have n0_:=zA (zN (g:=gb187) (o:=.cells #[.slice A0_0 l0_0.length c0_0,.slice A0_1 l0_1.length c0_1] 25 (0,0)) (by (with_reducible repeat (first|refine zL ?_ _|refine zM ?_|refine zK ?_ _));exact BK187.out) hb);have n1_:=zA (zH (by repeat (first|(with_reducible first|exact HB.out|apply zD|apply zC|apply zE|refine zF ?_ GE187.out)|exact HB.out)) hb);clear BK187;clear HB;have BK187:=n0_;have HB:=n1_;clear n0_ n1_;(try clear hb);(try clear hb2);(try clear hk);(try clear hi)))
  go_ret2
  exact ⟨_,by first|rfl|(simp [errW_none,errW_some] <;> rfl)|(simp [*,errW_none,errW_some] <;> rfl),by first|exact Kd.R_nil _ _ _ _ _|exact Kd.N_nil _ _ _ _ _|exact Kd.V_nil _ _ _ _ _|exact Kd.Q_nil _ _ _ _ _|exact Kd.S_nil _ _ _ _ _,by repeat (first|(with_reducible first|exact HB.out|apply zD|apply zC|apply zE|refine zF ?_ GE187.out)|exact HB.out)⟩
mutual
def foretellref_PropsFault.j0:Nat → List (List (S94)) → Int → Bool → List (S74) → List (S68) → Option (Int)
 | 0,_,_,_,_,_=>none
 | k + 1,x1,x5,x15,x280000,x280001=>if x15 = true then (foretellref_PropsFault.j1 k x1 1 x280000 x280001) else (foretellref_PropsFault.j1 k x1 x5 x280000 x280001)
def foretellref_PropsFault.j1:Nat → List (List (S94)) → Int → List (S74) → List (S68) → Option (Int)
 | 0,_,_,_,_=>none
 | k + 1,x1,x5,x280000,x280001=>foretellref_PropsFault.l0 k x1 x5 0 x280000 x280001
def foretellref_PropsFault.l0:Nat → List (List (S94)) → Int → Int → List (S74) → List (S68) → Option (Int)
 | 0,_,_,_,_,_=>none
 | k + 1,x1,x5,x6,x280000,x280001=>if x6 < (x1.length:Int) then (if x5 = 0 then (if 0 ≤ x6 then ((foretellref_kindFault.f k (rd_L4 x1 x6) (x280000.length:Int) true).bind fun t282=>(foretellref_PropsFault.l0 k x1 t282 (wrap64 (x6 + 1)) x280000 x280001)) else (none)) else (some x5)) else (some x5)
end
def foretellref_PropsFault.f (k:Nat) (l0_0:List (S74)) (l0_1:List (S68)) (l1:List (List (S94))):Option (Int):=(foretellref_ModelFault.f k l0_0 l0_1).bind fun t280=>(if t280 = 0 then (foretellref_PropsFault.j0 k l1 t280 (decide ((l1.length:Int) > 6)) l0_0 l0_1) else (foretellref_PropsFault.j0 k l1 t280 false l0_0 l0_1))
theorem foretellref_PropsFault.mono_l:∀ k,(∀ y0 y1 y2 y3 y4,LeO (foretellref_PropsFault.j0 k y0 y1 y2 y3 y4) (foretellref_PropsFault.j0 (k + 1) y0 y1 y2 y3 y4))∧(∀ y0 y1 y2 y3,LeO (foretellref_PropsFault.j1 k y0 y1 y2 y3) (foretellref_PropsFault.j1 (k + 1) y0 y1 y2 y3))∧(∀ y0 y1 y2 y3 y4,LeO (foretellref_PropsFault.l0 k y0 y1 y2 y3 y4) (foretellref_PropsFault.l0 (k + 1) y0 y1 y2 y3 y4))
 | 0=>⟨fun _ _ _ _ _ r h=>by simp [foretellref_PropsFault.j0] at h,fun _ _ _ _ r h=>by simp [foretellref_PropsFault.j1] at h,fun _ _ _ _ _ r h=>by simp [foretellref_PropsFault.l0] at h⟩
 | k + 1=>by
  obtain ⟨ih0,ih1,ih2⟩:=foretellref_PropsFault.mono_l k
  refine ⟨?_,?_,?_⟩
  ·intro y0 y1 y2 y3 y4
   unfold foretellref_PropsFault.j0
   repeat' first
   | (with_reducible exact ih0 _ _ _ _ _)
   | (with_reducible exact ih1 _ _ _ _)
   | (with_reducible exact ih2 _ _ _ _ _)
   | (with_reducible exact foretellref_ModelFault.mono _ _ _)
   | (with_reducible exact foretellref_kindFault.mono _ _ _ _)
   | (with_reducible exact LeO.refl _)
   | (with_reducible exact LeO.none _)
   | (with_reducible refine LeO.ite ?_ ?_)
   | (with_reducible refine LeO.bind ?_ (fun _=>?_))
   | exact ih0 _ _ _ _ _
   | exact ih1 _ _ _ _
   | exact ih2 _ _ _ _ _
   | exact foretellref_ModelFault.mono _ _ _
   | exact foretellref_kindFault.mono _ _ _ _
   | exact LeO.none _
   | refine LeO.ite ?_ ?_
   | refine LeO.bind ?_ (fun _=>?_)
  ·intro y0 y1 y2 y3
   unfold foretellref_PropsFault.j1
   repeat' first
   | (with_reducible exact ih0 _ _ _ _ _)
   | (with_reducible exact ih1 _ _ _ _)
   | (with_reducible exact ih2 _ _ _ _ _)
   | (with_reducible exact foretellref_ModelFault.mono _ _ _)
   | (with_reducible exact foretellref_kindFault.mono _ _ _ _)
   | (with_reducible exact LeO.refl _)
   | (with_reducible exact LeO.none _)
   | (with_reducible refine LeO.ite ?_ ?_)
   | (with_reducible refine LeO.bind ?_ (fun _=>?_))
   | exact ih0 _ _ _ _ _
   | exact ih1 _ _ _ _
   | exact ih2 _ _ _ _ _
   | exact foretellref_ModelFault.mono _ _ _
   | exact foretellref_kindFault.mono _ _ _ _
   | exact LeO.none _
   | refine LeO.ite ?_ ?_
   | refine LeO.bind ?_ (fun _=>?_)
  ·intro y0 y1 y2 y3 y4
   unfold foretellref_PropsFault.l0
   repeat' first
   | (with_reducible exact ih0 _ _ _ _ _)
   | (with_reducible exact ih1 _ _ _ _)
   | (with_reducible exact ih2 _ _ _ _ _)
   | (with_reducible exact foretellref_ModelFault.mono _ _ _)
   | (with_reducible exact foretellref_kindFault.mono _ _ _ _)
   | (with_reducible exact LeO.refl _)
   | (with_reducible exact LeO.none _)
   | (with_reducible refine LeO.ite ?_ ?_)
   | (with_reducible refine LeO.bind ?_ (fun _=>?_))
   | exact ih0 _ _ _ _ _
   | exact ih1 _ _ _ _
   | exact ih2 _ _ _ _ _
   | exact foretellref_ModelFault.mono _ _ _
   | exact foretellref_kindFault.mono _ _ _ _
   | exact LeO.none _
   | refine LeO.ite ?_ ?_
   | refine LeO.bind ?_ (fun _=>?_)
theorem foretellref_PropsFault.mono:∀ a0 a1 a2 k,LeO (foretellref_PropsFault.f k a0 a1 a2) (foretellref_PropsFault.f (k + 1) a0 a1 a2):=by
 intro a0 a1 a2 k
 obtain ⟨ih0,ih1,ih2⟩:=foretellref_PropsFault.mono_l k
 unfold foretellref_PropsFault.f
 repeat' first
   | (with_reducible exact ih0 _ _ _ _ _)
   | (with_reducible exact ih1 _ _ _ _)
   | (with_reducible exact ih2 _ _ _ _ _)
   | (with_reducible exact foretellref_ModelFault.mono _ _ _)
   | (with_reducible exact foretellref_kindFault.mono _ _ _ _)
   | (with_reducible exact LeO.refl _)
   | (with_reducible exact LeO.none _)
   | (with_reducible refine LeO.ite ?_ ?_)
   | (with_reducible refine LeO.bind ?_ (fun _=>?_))
   | exact ih0 _ _ _ _ _
   | exact ih1 _ _ _ _
   | exact ih2 _ _ _ _ _
   | exact foretellref_ModelFault.mono _ _ _
   | exact foretellref_kindFault.mono _ _ _ _
   | exact LeO.none _
   | refine LeO.ite ?_ ?_
   | refine LeO.bind ?_ (fun _=>?_)
def foretellref_PropsFault.T7:Bool × List (List Nat × List Nat):=(true,[([],[]),([],[]),([0,1],[0,1]),([2],[2]),([],[]),([4],[4]),([5],[5]),([3,6],[3,6]),([7,7,0,1,2,3,4,5,6,7],[7])])
def foretellref_PropsFault.B7:List Nat:=[0,0,3,7,0,16,48,127,255]
theorem foretellref_PropsFault.tab7:rtab .any (opsOf Tryd.f23 7) = foretellref_PropsFault.T7:=by kernel_rfl
theorem foretellref_PropsFault.bits7:waitsOk foretellref_PropsFault.T7.2 foretellref_PropsFault.B7 = true:=by kernel_rfl
set_option maxHeartbeats 8000000 in
set_option maxRecDepth 100000 in
theorem foretellref_PropsFault.calls (k:Nat) (A0_0:Option Addr) (c0_0:Nat) (l0_0:List (S74)) (A0_1:Option Addr) (c0_1:Nat) (l0_1:List (S68)) (A1:Option Addr) (c1:Nat) (l1:List (List (S94))) (r:Int) (w:World) (hr0_0:Kd.C k74 w A0_0 l0_0.length l0_0) (hc0_0:l0_0.length ≤ c0_0) (hr0_1:Kd.C k68 w A0_1 l0_1.length l0_1) (hc0_1:l0_1.length ≤ c0_1) (hr1:Kd.C (Kd.slice 94 k94) w A1 l1.length l1) (hc1:l1.length ≤ c1) (h:foretellref_PropsFault.f k l0_0 l0_1 l1 = some r) :
  Calls Tryd.prog 23 #[.agg #[.slice A0_0 l0_0.length c0_0,.slice A0_1 l0_1.length c0_1],.slice A1 l1.length c1] w fun e w'=>e = .returned (.int .i64 r)∧Below w.heap.size w w':=by
 have hu25:=Tryd.underlying25
 have HR0_0:=zA hr0_0
 have HC0_0:=zA hc0_0
 clear hr0_0 hc0_0
 have HR0_1:=zA hr0_1
 have HC0_1:=zA hc0_1
 clear hr0_1 hc0_1
 have HR1:=zA hr1
 have HC1:=zA hc1
 clear hr1 hc1
 have HB:=zA (Below.refl w.heap.size w)
 have H:((foretellref_ModelFault.f k l0_0 l0_1).bind fun t280=>(if t280 = 0 then (foretellref_PropsFault.j0 k l1 t280 (decide ((l1.length:Int) > 6)) l0_0 l0_1) else (foretellref_PropsFault.j0 k l1 t280 false l0_0 l0_1))) = some r:=h
 clear h
 replace H:=zb.mp H
 obtain ⟨t280,A30,H⟩:=H
 replace H:(if t280 = 0 then (foretellref_PropsFault.j0 k l1 t280 (decide ((l1.length:Int) > 6)) l0_0 l0_1) else (foretellref_PropsFault.j0 k l1 t280 false l0_0 l0_1)) = some r:=H
 have A3:=zA A30
 clear A30
 have HC4:=zA H
 clear H
 go_enter Tryd.func23,Tryd.ntmps23
 go_upto_region 2 with (first|((with_reducible refine zV (N:=2) rfl ?_);(try (refine gate_guard (by rfl) ?_;dsimp only));refine zW ?hg (N:=2) ?hd (cs:=#[.slice A0_0 l0_0.length c0_0,.slice A0_1 l0_1.length c0_1]) (t:=25) ?hr ?_;(case hd=>rfl);(case hg=>rfl);(case hr=>first|(go_simp;done)|(go_simp;rfl));intro gb279 hg w5 hbox hb;have n0_:=zA (zH (by repeat (first|(with_reducible first|exact HB.out|apply zD|apply zC|apply zE)|exact HB.out)) hb);have n1_:=zA (hbox);have n2_:=zA ((by rw [hg];exact (zG (by repeat (first|(with_reducible first|exact HB.out|apply zD|apply zC|apply zE)|exact HB.out))):w.heap.size ≤ gb279));have n3_:=zA ((by rw [hg];exact (zG (by repeat (first|(with_reducible first|exact HB.out|apply zD|apply zC|apply zE)|exact HB.out))):w.heap.size ≤ gb279));clear HB;have HB:=n0_;have BK279:=n1_;have GW279:=n2_;have GE279:=n3_;clear n0_ n1_ n2_ n3_;clear hb hbox hg;have hcz6_0:w5.cell? ⟨gb279,0,none⟩ = some (.slice A0_0 l0_0.length c0_0):=(zI BK279.out 0).trans rfl;have hcz6_1:w5.cell? ⟨gb279,1,none⟩ = some (.slice A0_1 l0_1.length c0_1):=(zI BK279.out 1).trans rfl;have hfz6_0:=zJ BK279.out 0;have hfz6_1:=zJ BK279.out 1)|((with_reducible refine zU (f:=17) rfl ?_);refine goesL_ (some 8) rfl rfl Tryd.func17 (by kernel_rfl) rfl #[.agg #[.slice A0_0 l0_0.length c0_0,.slice A0_1 l0_1.length c0_1]] rfl (by (try simp only [zx,zy,zz]);first|done|rfl|(simp only [zd,zt];rfl)) ?_;(with_reducible refine (foretellref_ModelFault.calls k _ _ l0_0 _ _ l0_1 t280 _ ?side1 ?side2 ?side3 ?side4 A3.out).mono ?_);(case side1=>repeat (first|exact (zT HR0_0.out HB.out)|(with_reducible refine Kd.C_alloc ?_ _)|(with_reducible refine Kd.C_drewN ?_ _)|(with_reducible refine Kd.C_drew ?_)));(case side2=>exact HC0_0.out);(case side3=>repeat (first|exact (zT HR0_1.out HB.out)|(with_reducible refine Kd.C_alloc ?_ _)|(with_reducible refine Kd.C_drewN ?_ _)|(with_reducible refine Kd.C_drew ?_)));(case side4=>exact HC0_1.out);rintro e w7 ⟨rfl,hb⟩;refine ⟨_,rfl,?_⟩;have n0_:=zA (zN (g:=gb279) (o:=.cells #[.slice A0_0 l0_0.length c0_0,.slice A0_1 l0_1.length c0_1] 25 (0,0)) (by (with_reducible repeat (first|refine zL ?_ _|refine zM ?_|refine zK ?_ _));exact BK279.out) hb);have n1_:=zA (zH (by repeat (first|(with_reducible first|exact HB.out|apply zD|apply zC|apply zE|refine zF ?_ GE279.out)|exact HB.out)) hb);clear BK279;clear HB;have BK279:=n0_;have HB:=n1_;clear n0_ n1_;(try clear hb);(try clear hb2);(try clear hk);(try clear hi)))
 (try simp only [Act.put,zX,zY,zZ])
 go_cut [15] (fun v15 wc=>∃ (kq:Nat) (x15_3:Bool),v15 = .bool x15_3∧Aside0 (foretellref_PropsFault.j0 kq l1 t280 x15_3 l0_0 l0_1 = some r)∧Aside0 (kq ≤ k)∧Aside0 (wc.heap[gb279]? = some (.cells #[(.slice A0_0 l0_0.length c0_0),(.slice A0_1 l0_1.length c0_1)] 25 (0,0)))∧Aside0 (Below w.heap.size w wc))
 case first =>
  have H:=HC4.out
  clear HC4
  by_cases c8:t280 = 0
  ·rw [if_pos c8] at H
   have c8b0:(t280 == 0) = true:=beq_iff_eq.mpr c8
   have c8b1:(t280 != 0) = false:=bne_eq_false_iff_eq.mpr c8
   clear c8
   (first|rw [c8b0]|(simp only [i64_w,i32_w];rw [c8b0])|skip)
   have H':=zA H
   clear H
   go_wp2
   go_meet
   case rel=>exact ⟨_,(decide ((l1.length:Int) > 6)),(by first|rfl|(simp;done)|(simp [*];done)),H',⟨by first|omega|exact Nat.le_refl _⟩,⟨by (with_reducible repeat (first|refine zL ?_ _|refine zM ?_|refine zK ?_ _));exact BK279.out⟩,⟨by repeat (first|(with_reducible first|exact HB.out|apply zD|apply zC|apply zE|refine zF ?_ GE279.out)|exact HB.out)⟩⟩
  ·rw [if_neg c8] at H
   have c8b0:(t280 == 0) = false:=beq_eq_false_iff_ne.mpr c8
   have c8b1:(t280 != 0) = true:=bne_iff_ne.mpr c8
   (first|rw [c8b0]|(simp only [i64_w,i32_w];rw [c8b0])|skip)
   have H':=zA H
   clear H
   go_wp2
   go_meet
   case rel=>exact ⟨_,(false),(by first|rfl|(simp;done)|(simp [*];done)),H',⟨by first|omega|exact Nat.le_refl _⟩,⟨by (with_reducible repeat (first|refine zL ?_ _|refine zM ?_|refine zK ?_ _));exact BK279.out⟩,⟨by repeat (first|(with_reducible first|exact HB.out|apply zD|apply zC|apply zE|refine zF ?_ GE279.out)|exact HB.out)⟩⟩
 case rest =>
  clear HC4
  try clear c1
  try clear c2
  try clear p2
  try clear c8
  try clear c8b0
  try clear c8b1
  try clear hcz6_0
  try clear hcz6_1
  try clear hfz6_0
  try clear hfz6_1
  obtain ⟨kq,x15_3,rfl,HA,HJ3,BK279,HB⟩:=hcut
  cases kq with
  | zero=>exact absurd HA.out (by simp [foretellref_PropsFault.j0])
  | succ kj3 =>
   have H:=HA.out
   clear HA
   simp only [foretellref_PropsFault.j0] at H
   have HC9:=zA H
   clear H
   go_upto_if 15 with (fail)
   go_cut [5] (fun v5 wc=>∃ (kq:Nat) (x5_8:Int),v5 = .int .i64 x5_8∧Aside0 (foretellref_PropsFault.j1 kq l1 x5_8 l0_0 l0_1 = some r)∧Aside0 (kq ≤ kj3)∧Aside0 (wc.heap[gb279]? = some (.cells #[(.slice A0_0 l0_0.length c0_0),(.slice A0_1 l0_1.length c0_1)] 25 (0,0)))∧Aside0 (Below w.heap.size w wc))
   case first =>
    have H:=HC9.out
    clear HC9
    by_cases c10:x15_3 = true
    ·subst c10
     have H1:(foretellref_PropsFault.j1 kj3 l1 1 l0_0 l0_1) = some r:=by rw [if_pos rfl] at H;exact H
     clear H
     have H:=H1
     clear H1
     have H':=zA H
     clear H
     go_wp2
     go_meet
     case rel=>exact ⟨_,(1),(by first|rfl|(simp;done)|(simp [*];done)),H',⟨by have:=HJ3.out;first|omega|exact Nat.le_refl _⟩,⟨by (with_reducible repeat (first|refine zL ?_ _|refine zM ?_|refine zK ?_ _));exact BK279.out⟩,⟨by repeat (first|(with_reducible first|exact HB.out|apply zD|apply zC|apply zE|refine zF ?_ GE279.out)|exact HB.out)⟩⟩
    ·replace c10:=Bool.eq_false_iff.mpr c10
     subst c10
     have H1:(foretellref_PropsFault.j1 kj3 l1 t280 l0_0 l0_1) = some r:=by rw [if_neg (show ¬ (false = true) by decide)] at H;exact H
     clear H
     have H:=H1
     clear H1
     have H':=zA H
     clear H
     go_wp2
     go_meet
     case rel=>exact ⟨_,(t280),(by first|rfl|(simp;done)|(simp [*];done)),H',⟨by have:=HJ3.out;first|omega|exact Nat.le_refl _⟩,⟨by (with_reducible repeat (first|refine zL ?_ _|refine zM ?_|refine zK ?_ _));exact BK279.out⟩,⟨by repeat (first|(with_reducible first|exact HB.out|apply zD|apply zC|apply zE|refine zF ?_ GE279.out)|exact HB.out)⟩⟩
   case rest =>
    clear HC9
    try clear c1
    try clear c2
    try clear p2
    try clear c8
    try clear c8b0
    try clear c8b1
    try clear c10
    try clear hcz6_0
    try clear hcz6_1
    try clear hfz6_0
    try clear hfz6_1
    try clear p2
    obtain ⟨kq,x5_8,rfl,HA,HJ8,BK279,HB⟩:=hcut
    cases kq with
    | zero=>exact absurd HA.out (by simp [foretellref_PropsFault.j1])
    | succ kj8 =>
     have H:=HA.out
     clear HA
     simp only [foretellref_PropsFault.j1] at H
     have H':=zA H
     clear H
     go_wp2
     go_loopg [5,6] kj8 (fun kq v5 v6 w'=>∃ (x5_3:Int) (x6_3:Int),v5 = .int .i64 x5_3∧v6 = .int .i64 x6_3∧Aside0 (foretellref_PropsFault.l0 kq l1 x5_3 x6_3 l0_0 l0_1 = some r)∧Aside0 (kq ≤ kj8)∧Aside0 (w'.heap[gb279]? = some (.cells #[(.slice A0_0 l0_0.length c0_0),(.slice A0_1 l0_1.length c0_1)] 25 (0,0)))∧Aside0 (Below w.heap.size w w'))
     case atStart=>exact ⟨(x5_8),(0),(by first|rfl|(simp;done)|(simp [*];done)),(by first|rfl|(simp;done)|(simp [*];done)),H',⟨Nat.le_refl _⟩,⟨by (with_reducible repeat (first|refine zL ?_ _|refine zM ?_|refine zK ?_ _));exact BK279.out⟩,⟨by repeat (first|(with_reducible first|exact HB.out|apply zD|apply zC|apply zE|refine zF ?_ GE279.out)|exact HB.out)⟩⟩
     case round =>
      clear H'
      try clear c1
      try clear c2
      try clear p2
      try clear c8
      try clear c8b0
      try clear c8b1
      try clear c10
      try clear hcz6_0
      try clear hcz6_1
      try clear hfz6_0
      try clear hfz6_1
      try clear p2
      obtain ⟨x5_3,x6_3,rfl,rfl,HA,HK3,BK279,HB⟩:=hrel
      cases gk with
      | zero=>exact absurd HA.out (by simp [foretellref_PropsFault.l0])
      | succ k3 =>
       have H:=HA.out
       clear HA
       simp only [foretellref_PropsFault.l0] at H
       by_cases c11:x6_3 < (l1.length:Int)
       ·rw [if_pos c11] at H
        have c11b0:decide (x6_3 < (l1.length:Int)) = true:=zQ c11
        clear c11
        by_cases c12:x5_3 = 0
        ·rw [if_pos c12] at H
         have c12b0:(x5_3 == 0) = true:=beq_iff_eq.mpr c12
         have c12b1:(x5_3 != 0) = false:=bne_eq_false_iff_eq.mpr c12
         clear c12
         by_cases c13:0 ≤ x6_3
         ·rw [if_pos c13] at H
          have c13b0:decide (0 ≤ x6_3) = true:=zQ c13
          clear c13
          replace H:=zb.mp H
          obtain ⟨t282,A140,H⟩:=H
          replace H:(foretellref_PropsFault.l0 k3 l1 t282 (wrap64 (x6_3 + 1)) l0_0 l0_1) = some r:=H
          have A14:=zA A140
          clear A140
          have H':=zA H
          clear H
          try go_wp2
          have n0_:=zA (zM BK279.out)
          have n1_:=zA (zE HB.out)
          clear BK279
          clear HB
          have BK279:=n0_
          have HB:=n1_
          clear n0_ n1_
          have p281:0 ≤ (x6_3:Int):=zP (by assumption)
          have q281:x6_3 < (l1.length:Int):=zP (by assumption)
          obtain ⟨ad281,A281_0,c281_0,e281,hx281_0,hl281_0,hi281_0⟩:=at_L4 HR1.out x6_3 p281 q281
          have hw281_0:=hx281_0
          cases e281
          replace hx281_0:=(HB.out.cell (zB w _ hx281_0)).trans hx281_0
          have HR281_0:=zA hi281_0
          have HC281_0:=zA hl281_0
          clear hi281_0 hl281_0
          replace p281:=eq_true p281
          replace q281:=eq_true q281
          refine start_ (n:=9) (S:=fun w'=>w'.cell? ⟨gb279,0,none⟩ = some (.slice A0_0 l0_0.length c0_0)∧w'.cell? ⟨gb279,1,none⟩ = some (.slice A0_1 l0_1.length c0_1)∧w'.cell? (ad281.add (x6_3).toNat) = some (.slice A281_0 (rd_L4 l1 x6_3).length c281_0)) (ds:=[]) #[false,false,false,false,false,false,false,false,false] (by kernel_rfl) rfl rfl ⟨(zI BK279.out 0).trans rfl,(zI BK279.out 1).trans rfl,((HB.out.cell (zB w _ hw281_0)).trans hw281_0)⟩ (fun hHeld=>?_);refine with_tabW foretellref_PropsFault.tab7 foretellref_PropsFault.bits7 (fun HT_ HW_=>?_)
          generalize wr.drew = w15 at BK279 HB HR281_0 hx281_0 hHeld ⊢
          refine pure_ (i:=0) (N:=some 26) (v:=?_) (a':=?_) #[true,false,false,false,false,false,false,false,false] rfl rfl (any_of HT_.out (by kernel_rfl)) (fun _ _ _ h=>h) (Or.inl ⟨by rfl,?_⟩) ?_ ?_
          rotate_left
          ·intro w'
           go_simp
           with_reducible rfl
          rotate_left
          ·simp only [Act.put,zX,zY,zZ,i64_w,i32_w]
           rfl
          refine pure_ (i:=1) (N:=some 27) (v:=?_) (a':=?_) #[true,true,false,false,false,false,false,false,false] rfl rfl (any_of HT_.out (by kernel_rfl)) (fun _ _ _ h=>h) (Or.inl ⟨by rfl,?_⟩) ?_ ?_
          rotate_left
          ·intro w'
           go_simp
           with_reducible rfl
          rotate_left
          ·simp only [Act.put,zX,zY,zZ,i64_w,i32_w]
           rfl
          refine pure_ (i:=2) (N:=some 28) (v:=?_) (a':=?_) #[true,true,true,false,false,false,false,false,false] rfl rfl (any_of HT_.out (by kernel_rfl)) (fun _ _ _ h=>h) (Or.inl ⟨by rfl,?_⟩) ?_ ?_
          rotate_left
          ·intro w'
           go_simp
           with_reducible rfl
          rotate_left
          ·simp only [Act.put,zX,zY,zZ,i64_w,i32_w]
           rfl
          refine pure_ (i:=4) (N:=some 30) (v:=?_) (a':=?_) #[true,true,true,false,true,false,false,false,false] rfl rfl (any_of HT_.out (by kernel_rfl)) (fun _ _ _ h=>h) (Or.inl ⟨by rfl,?_⟩) ?_ ?_
          rotate_left
          ·intro w'
           go_simp
           with_reducible rfl
          rotate_left
          ·simp only [Act.put,zX,zY,zZ,i64_w,i32_w]
           rfl
          refine take_ (i:=3) (N:=some 29) (v:=?_) (a':=?_) #[true,true,true,true,true,false,false,false,false] rfl rfl (take_ofW HT_.out HW_.out (by kernel_rfl)) (fun _ _ _ h=>h) (Or.inl ⟨by rfl,?_⟩) hHeld ?_ ?_
          rotate_left
          ·rintro w' ⟨s0,s1,s2⟩
           go_simp
           with_reducible rfl
          rotate_left
          ·simp only [Act.put,zX,zY,zZ,i64_w,i32_w]
           rfl
          refine take_ (i:=5) (N:=some 31) (v:=?_) (a':=?_) #[true,true,true,true,true,true,false,false,false] rfl rfl (take_ofW HT_.out HW_.out (by kernel_rfl)) (fun _ _ _ h=>h) (Or.inl ⟨by rfl,?_⟩) hHeld ?_ ?_
          rotate_left
          ·rintro w' ⟨s0,s1,s2⟩
           go_simp
           with_reducible rfl
          rotate_left
          ·simp only [Act.put,zX,zY,zZ,i64_w,i32_w]
           rfl
          refine pure_ (i:=6) (N:=some 32) (v:=?_) (a':=?_) #[true,true,true,true,true,true,true,false,false] rfl rfl (any_of HT_.out (by kernel_rfl)) (fun _ _ _ h=>h) (Or.inl ⟨by rfl,?_⟩) ?_ ?_
          rotate_left
          ·intro w'
           go_simp
           with_reducible rfl
          rotate_left
          ·simp only [Act.put,zX,zY,zZ,i64_w,i32_w]
           rfl
          refine one_ (i:=7) (N:=some 33) #[true,true,true,true,true,true,true,true,false] rfl rfl (one_of HT_.out (by kernel_rfl)) (by decide) (fun K hK=>?_)
          refine goes_ Tryd.func55 (by kernel_rfl) rfl #[.slice A281_0 (rd_L4 l1 x6_3).length c281_0,.int .i64 (l0_0.length:Int),.bool true] (by rfl) rfl rfl (by (try simp only [zx,zy,zz]);first|done|rfl|(simp only [zd,zt];rfl)) ?_
          with_reducible refine (foretellref_kindFault.calls k3 _ _ (rd_L4 l1 x6_3) (l0_0.length:Int) true t282 _ ?side1 ?side2 A14.out).mono ?_
          (case side1=>repeat (first|exact (zT HR281_0.out HB.out)|(with_reducible refine Kd.C_alloc ?_ _)|(with_reducible refine Kd.C_drewN ?_ _)|(with_reducible refine Kd.C_drew ?_)))
          (case side2=>exact HC281_0.out)
          rintro e w16 ⟨rfl,hb⟩
          refine ⟨_,rfl,?_⟩
          have n0_:=zA (zN (g:=gb279) (o:=.cells #[.slice A0_0 l0_0.length c0_0,.slice A0_1 l0_1.length c0_1] 25 (0,0)) (by (with_reducible repeat (first|refine zL ?_ _|refine zM ?_|refine zK ?_ _));exact BK279.out) hb)
          have n1_:=zA (zH (by repeat (first|(with_reducible first|exact HB.out|apply zD|apply zC|apply zE|refine zF ?_ GE279.out)|exact HB.out)) hb)
          clear BK279
          clear HB
          have BK279:=n0_
          have HB:=n1_
          clear n0_ n1_
          (try clear hb)
          (try clear hb2)
          (try clear hk)
          (try clear hi)
          refine hK.out _ _ ⟨(zI BK279.out 0).trans rfl,(zI BK279.out 1).trans rfl,((HB.out.cell (zB w _ hw281_0)).trans hw281_0)⟩ (fun hHeld=>?_)
          clear hK K
          refine norm_ (a':=?_) ?_ ?_
          rotate_left
          ·show Act.put _ (some 33) _ = _
           simp only [Act.put,zX,zY,zZ,i64_w,i32_w]
           rfl
          refine pure_ (i:=8) (N:=some 5) (v:=?_) (a':=?_) #[true,true,true,true,true,true,true,true,true] rfl rfl (any_of HT_.out (by kernel_rfl)) (fun _ _ _ h=>h) (Or.inl ⟨by rfl,?_⟩) ?_ ?_
          rotate_left
          ·intro w'
           go_simp
           with_reducible rfl
          rotate_left
          ·simp only [Act.put,zX,zY,zZ,i64_w,i32_w]
           rfl
          refine done_ (done_of HT_.out (by kernel_rfl)) ?_
          try go_wp2
          go_roundg k3
          case measure=>have:=HJ3.out;have:=HJ8.out;have:=HK3.out;omega
          case rel=>exact ⟨(t282),(wrap64 (x6_3 + 1)),(by first|rfl|(simp;done)|(simp [*];done)),(by first|rfl|(simp;done)|(simp [*];done)),H',⟨by have:=HJ3.out;have:=HJ8.out;have:=HK3.out;omega⟩,⟨by (with_reducible repeat (first|refine zL ?_ _|refine zM ?_|refine zK ?_ _));exact BK279.out⟩,⟨by repeat (first|(with_reducible first|exact HB.out|apply zD|apply zC|apply zE|refine zF ?_ GE279.out)|exact HB.out)⟩⟩
         ·rw [if_neg c13] at H
          exact absurd H (by simp)
        ·rw [if_neg c12] at H
         have c12b0:(x5_3 == 0) = false:=beq_eq_false_iff_ne.mpr c12
         have c12b1:(x5_3 != 0) = true:=bne_iff_ne.mpr c12
         obtain rfl:=Option.some.inj H
         go_wp2
         go_ret
         exact ⟨by first|rfl|(simp [errW_none,errW_some] <;> rfl)|(simp [*,errW_none,errW_some] <;> rfl),by repeat (first|(with_reducible first|exact HB.out|apply zD|apply zC|apply zE|refine zF ?_ GE279.out)|exact HB.out)⟩
       ·rw [if_neg c11] at H
        have c11b0:decide (x6_3 < (l1.length:Int)) = false:=zR c11
        clear c11
        obtain rfl:=Option.some.inj H
        go_wp2
        go_ret
        exact ⟨by first|rfl|(simp [errW_none,errW_some] <;> rfl)|(simp [*,errW_none,errW_some] <;> rfl),by repeat (first|(with_reducible first|exact HB.out|apply zD|apply zC|apply zE|refine zF ?_ GE279.out)|exact HB.out)⟩
mutual
def foretellref_worked.l0:Nat → List (S94) → List Int → List (List (S94)) → List Int → Int → Option (Int × Int)
 | 0,_,_,_,_,_=>none
 | k + 1,x0,x1,x6,x8,x9=>if x9 < (x6.length:Int) then (if x8.length < 17592186044416 then (foretellref_worked.l0 k x0 x1 x6 (x8 ++ [0]) (wrap64 (x9 + 1))) else (none)) else (foretellref_worked.l1 k x0 x1 x6 x8 (wrap64 ((x6.length:Int) - 1)))
def foretellref_worked.l1:Nat → List (S94) → List Int → List (List (S94)) → List Int → Int → Option (Int × Int)
 | 0,_,_,_,_,_=>none
 | k + 1,x0,x1,x6,x8,x10=>if x10 ≥ 0 then (if 0 ≤ x10 then (if x10 < (x6.length:Int) then ((foretellref_worked.f k (rd_L4 x6 x10) x1).bind fun bt306=>(if bt306.2 = 0 then (if x10 < (x8.length:Int) then (foretellref_worked.l1 k x0 x1 x6 (x8.set (x10:Int).toNat bt306.1) (wrap64 (x10 - 1))) else (none)) else (some (0,bt306.2)))) else (none)) else (none)) else (if 0 < (x0.length:Int) then (if ((rd_T94 x0 0).f0) = 1 then (foretellref_worked.j2 k ((rd_T94 x0 0).f1) false) else (if ((rd_T94 x0 0).f0) = 2 then (if 0 ≤ ((rd_T94 x0 0).f1) then (if ((rd_T94 x0 0).f1) < (x1.length:Int) then (foretellref_worked.j2 k (rd x1 ((rd_T94 x0 0).f1)) false) else (none)) else (none)) else (if ((rd_T94 x0 0).f0) = 3 then (if 0 < (x8.length:Int) then (if 1 < (x8.length:Int) then (foretellref_worked.j2 k (wrap64 ((rd x8 0) + (rd x8 1))) false) else (none)) else (none)) else (if ((rd_T94 x0 0).f0) = 4 then (if 0 < (x8.length:Int) then (if 1 < (x8.length:Int) then (foretellref_worked.j2 k (wrap64 ((rd x8 0) - (rd x8 1))) false) else (none)) else (none)) else (if ((rd_T94 x0 0).f0) = 5 then (if 0 < (x8.length:Int) then (if 1 < (x8.length:Int) then (foretellref_worked.j2 k (wrap64 ((rd x8 0) * (rd x8 1))) false) else (none)) else (none)) else (if ((rd_T94 x0 0).f0) = 6 then (if 0 < (x8.length:Int) then (if 1 < (x8.length:Int) then (foretellref_worked.j2 k 0 ((rd x8 0) == (rd x8 1))) else (none)) else (none)) else (if ((rd_T94 x0 0).f0) = 7 then (if 0 < (x8.length:Int) then (if 1 < (x8.length:Int) then (foretellref_worked.j2 k 0 (decide ((rd x8 0) < (rd x8 1)))) else (none)) else (none)) else (if ((rd_T94 x0 0).f0) = 8 then (if 0 < (x8.length:Int) then (if (rd x8 0) = 1 then (if 1 < (x8.length:Int) then (foretellref_worked.j2 k 0 ((rd x8 1) == 1)) else (none)) else (foretellref_worked.j2 k 0 false)) else (none)) else (if ((rd_T94 x0 0).f0) = 9 then (if 0 < (x8.length:Int) then (if (rd x8 0) = 1 then (foretellref_worked.j2 k 0 true) else (if 1 < (x8.length:Int) then (foretellref_worked.j2 k 0 ((rd x8 1) == 1)) else (none))) else (none)) else (if ((rd_T94 x0 0).f0) = 10 then (if 0 < (x8.length:Int) then (foretellref_worked.j2 k 0 ((rd x8 0) == 0)) else (none)) else (if ((rd_T94 x0 0).f0) = 11 then (foretellref_worked.j2 k 0 true) else (foretellref_worked.j2 k 0 false)))))))))))) else (none))
def foretellref_worked.j2:Nat → Int → Bool → Option (Int × Int)
 | 0,_,_=>none
 | k + 1,x13,x14=>if x14 = true then ((foretellref_In.f 1 (-1000000) 1000000).bind fun t328=>(if t328 = true then (some (1,0)) else (some (0,8)))) else ((foretellref_In.f x13 (-1000000) 1000000).bind fun t329=>(if t329 = true then (some (x13,0)) else (some (0,8))))
def foretellref_worked.f:Nat → List (S94) → List Int → Option (Int × Int)
 | 0,_,_=>none
 | k + 1,l0,l1=>(foretellref_SplitOf.f k l0).bind fun bt298=>(foretellref_worked.l0 k l0 l1 bt298.1 ([]:List Int) 0)
end
theorem foretellref_worked.mono_l:∀ k,(∀ y0 y1,LeO (foretellref_worked.f k y0 y1) (foretellref_worked.f (k + 1) y0 y1))∧(∀ y0 y1 y2 y3 y4,LeO (foretellref_worked.l0 k y0 y1 y2 y3 y4) (foretellref_worked.l0 (k + 1) y0 y1 y2 y3 y4))∧(∀ y0 y1 y2 y3 y4,LeO (foretellref_worked.l1 k y0 y1 y2 y3 y4) (foretellref_worked.l1 (k + 1) y0 y1 y2 y3 y4))∧(∀ y0 y1,LeO (foretellref_worked.j2 k y0 y1) (foretellref_worked.j2 (k + 1) y0 y1))
 | 0=>⟨fun _ _ r h=>by simp [foretellref_worked.f] at h,fun _ _ _ _ _ r h=>by simp [foretellref_worked.l0] at h,fun _ _ _ _ _ r h=>by simp [foretellref_worked.l1] at h,fun _ _ r h=>by simp [foretellref_worked.j2] at h⟩
 | k + 1=>by
  obtain ⟨ih0,ih1,ih2,ih3⟩:=foretellref_worked.mono_l k
  refine ⟨?_,?_,?_,?_⟩
  ·intro y0 y1
   unfold foretellref_worked.f
   repeat' first
   | (with_reducible exact ih0 _ _)
   | (with_reducible exact ih1 _ _ _ _ _)
   | (with_reducible exact ih2 _ _ _ _ _)
   | (with_reducible exact ih3 _ _)
   | (with_reducible exact foretellref_SplitOf.mono _ _)
   | (with_reducible exact LeO.refl _)
   | (with_reducible exact LeO.none _)
   | (with_reducible refine LeO.ite ?_ ?_)
   | (with_reducible refine LeO.bind ?_ (fun _=>?_))
   | exact ih0 _ _
   | exact ih1 _ _ _ _ _
   | exact ih2 _ _ _ _ _
   | exact ih3 _ _
   | exact foretellref_SplitOf.mono _ _
   | exact LeO.none _
   | refine LeO.ite ?_ ?_
   | refine LeO.bind ?_ (fun _=>?_)
  ·intro y0 y1 y2 y3 y4
   unfold foretellref_worked.l0
   repeat' first
   | (with_reducible exact ih0 _ _)
   | (with_reducible exact ih1 _ _ _ _ _)
   | (with_reducible exact ih2 _ _ _ _ _)
   | (with_reducible exact ih3 _ _)
   | (with_reducible exact foretellref_SplitOf.mono _ _)
   | (with_reducible exact LeO.refl _)
   | (with_reducible exact LeO.none _)
   | (with_reducible refine LeO.ite ?_ ?_)
   | (with_reducible refine LeO.bind ?_ (fun _=>?_))
   | exact ih0 _ _
   | exact ih1 _ _ _ _ _
   | exact ih2 _ _ _ _ _
   | exact ih3 _ _
   | exact foretellref_SplitOf.mono _ _
   | exact LeO.none _
   | refine LeO.ite ?_ ?_
   | refine LeO.bind ?_ (fun _=>?_)
  ·intro y0 y1 y2 y3 y4
   unfold foretellref_worked.l1
   repeat' first
   | (with_reducible exact ih0 _ _)
   | (with_reducible exact ih1 _ _ _ _ _)
   | (with_reducible exact ih2 _ _ _ _ _)
   | (with_reducible exact ih3 _ _)
   | (with_reducible exact foretellref_SplitOf.mono _ _)
   | (with_reducible exact LeO.refl _)
   | (with_reducible exact LeO.none _)
   | (with_reducible refine LeO.ite ?_ ?_)
   | (with_reducible refine LeO.bind ?_ (fun _=>?_))
   | exact ih0 _ _
   | exact ih1 _ _ _ _ _
   | exact ih2 _ _ _ _ _
   | exact ih3 _ _
   | exact foretellref_SplitOf.mono _ _
   | exact LeO.none _
   | refine LeO.ite ?_ ?_
   | refine LeO.bind ?_ (fun _=>?_)
  ·intro y0 y1
   unfold foretellref_worked.j2
   repeat' first
   | (with_reducible exact ih0 _ _)
   | (with_reducible exact ih1 _ _ _ _ _)
   | (with_reducible exact ih2 _ _ _ _ _)
   | (with_reducible exact ih3 _ _)
   | (with_reducible exact foretellref_SplitOf.mono _ _)
   | (with_reducible exact LeO.refl _)
   | (with_reducible exact LeO.none _)
   | (with_reducible refine LeO.ite ?_ ?_)
   | (with_reducible refine LeO.bind ?_ (fun _=>?_))
   | exact ih0 _ _
   | exact ih1 _ _ _ _ _
   | exact ih2 _ _ _ _ _
   | exact ih3 _ _
   | exact foretellref_SplitOf.mono _ _
   | exact LeO.none _
   | refine LeO.ite ?_ ?_
   | refine LeO.bind ?_ (fun _=>?_)
theorem foretellref_worked.mono:∀ a0 a1 k,LeO (foretellref_worked.f k a0 a1) (foretellref_worked.f (k + 1) a0 a1):=by
 intro a0 a1 k
 obtain ⟨ih0,ih1,ih2,ih3⟩:=foretellref_worked.mono_l k
 exact ih0 a0 a1
set_option maxHeartbeats 8000000 in
set_option maxRecDepth 100000 in
theorem foretellref_worked.calls (k:Nat):∀ (A0:Option Addr) (c0:Nat) (l0:List (S94)) (A1:Option Addr) (c1:Nat) (l1:List Int) (r1:Int) (r2:Int) (w:World) (hr0:Kd.C k94 w A0 l0.length l0) (hc0:l0.length ≤ c0) (hr1:Kd.C (Kd.int .i64) w A1 l1.length l1) (hc1:l1.length ≤ c1) (h:foretellref_worked.f k l0 l1 = some (r1,r2)),
  Calls Tryd.prog 79 #[.slice A0 l0.length c0,.slice A1 l1.length c1] w fun e w'=>e = .returned (.tuple #[.int .i64 r1,.int .i64 r2])∧Below w.heap.size w w':=by
 induction k using Nat.strongRecOn with
 | _ k ih =>
 intro A0 c0 l0 A1 c1 l1 r1 r2 w hr0 hc0 hr1 hc1 h
 cases k with
 | zero=>exact absurd h (by simp [foretellref_worked.f])
 | succ k =>
 simp only [foretellref_worked.f] at h
 have HR0:=zA hr0
 have HC0:=zA hc0
 clear hr0 hc0
 have HR1:=zA hr1
 have HC1:=zA hc1
 clear hr1 hc1
 have HB:=zA (Below.refl w.heap.size w)
 have H:((foretellref_SplitOf.f k l0).bind fun bt298=>(foretellref_worked.l0 k l0 l1 bt298.1 ([]:List Int) 0)) = some (r1,r2):=h
 clear h
 replace H:=zb.mp H
 obtain ⟨⟨t298,t299⟩,A30,H⟩:=H
 replace H:(foretellref_worked.l0 k l0 l1 t298 ([]:List Int) 0) = some (r1,r2):=H
 have A3:=zA A30
 clear A30
 have H':=zA H
 clear H
 go_enter Tryd.func79,Tryd.ntmps79
 go_wp2_with (first|(go_at_call 101;(with_reducible refine (foretellref_SplitOf.calls k _ _ l0 t298 t299 _ ?side1 ?side2 A3.out).mono ?_);(case side1=>repeat (first|exact HR0.out|(with_reducible refine Kd.C_alloc ?_ _)|(with_reducible refine Kd.C_drewN ?_ _)|(with_reducible refine Kd.C_drew ?_)));(case side2=>exact HC0.out);rintro e w4 ⟨v300,rfl,ho0,hb⟩;have n0_:=zA (Kd.S_lower ho0 (zG (by repeat (first|(with_reducible first|exact HB.out|apply zD|apply zC|apply zE)|exact HB.out))));have n1_:=zA (zH (by repeat (first|(with_reducible first|exact HB.out|apply zD|apply zC|apply zE)|exact HB.out)) hb);clear HB;have HO301:=n0_;have HB:=n1_;clear n0_ n1_;(try clear hb);(try clear hb2);(try clear hk);(try clear hi);(try clear ho0)))
 repeat (go_quiet (first|(go_at_call 101;(with_reducible refine (foretellref_SplitOf.calls k _ _ l0 t298 t299 _ ?side1 ?side2 A3.out).mono ?_);(case side1=>repeat (first|exact HR0.out|(with_reducible refine Kd.C_alloc ?_ _)|(with_reducible refine Kd.C_drewN ?_ _)|(with_reducible refine Kd.C_drew ?_)));(case side2=>exact HC0.out);rintro e w4 ⟨v300,rfl,ho0,hb⟩;have n0_:=zA (Kd.S_lower ho0 (zG (by repeat (first|(with_reducible first|exact HB.out|apply zD|apply zC|apply zE)|exact HB.out))));have n1_:=zA (zH (by repeat (first|(with_reducible first|exact HB.out|apply zD|apply zC|apply zE)|exact HB.out)) hb);clear HB;have HO301:=n0_;have HB:=n1_;clear n0_ n1_;(try clear hb);(try clear hb2);(try clear hk);(try clear hi);(try clear ho0)));try go_wp2_with (first|(go_at_call 101;(with_reducible refine (foretellref_SplitOf.calls k _ _ l0 t298 t299 _ ?side1 ?side2 A3.out).mono ?_);(case side1=>repeat (first|exact HR0.out|(with_reducible refine Kd.C_alloc ?_ _)|(with_reducible refine Kd.C_drewN ?_ _)|(with_reducible refine Kd.C_drew ?_)));(case side2=>exact HC0.out);rintro e w4 ⟨v300,rfl,ho0,hb⟩;have n0_:=zA (Kd.S_lower ho0 (zG (by repeat (first|(with_reducible first|exact HB.out|apply zD|apply zC|apply zE)|exact HB.out))));have n1_:=zA (zH (by repeat (first|(with_reducible first|exact HB.out|apply zD|apply zC|apply zE)|exact HB.out)) hb);clear HB;have HO301:=n0_;have HB:=n1_;clear n0_ n1_;(try clear hb);(try clear hb2);(try clear hk);(try clear hi);(try clear ho0))))
 go_loopg [8,9] k (fun kq v8 v9 w'=>∃ (x8_1:List Int) (x9_1:Int),v9 = .int .i64 x9_1∧Aside0 (foretellref_worked.l0 kq l0 l1 t298 x8_1 x9_1 = some (r1,r2))∧Aside0 (kq ≤ k)∧Aside0 (Kd.S (Kd.slice 94 k94) 45 w' w.heap.size (fun _=>True) v300 t298)∧Aside0 (Kd.R (Kd.int .i64) 3 w' w.heap.size (fun _=>True) v8 x8_1)∧Aside0 (Below w.heap.size w w'))
 case atStart=>exact ⟨(([]:List Int)),(0),(by first|rfl|(simp;done)|(simp [*];done)),H',⟨Nat.le_refl _⟩,⟨by (with_reducible repeat (first|apply Kd.S_alloc|apply Kd.S_drewN|apply Kd.S_drew));exact HO301.out⟩,⟨by first|exact Kd.R_nil _ _ _ _ _|exact Kd.N_nil _ _ _ _ _|exact Kd.V_nil _ _ _ _ _|exact Kd.Q_nil _ _ _ _ _|exact Kd.S_nil _ _ _ _ _⟩,⟨by repeat (first|(with_reducible first|exact HB.out|apply zD|apply zC|apply zE)|exact HB.out)⟩⟩
 case round =>
  clear H'
  try clear c1
  try clear p2
  obtain ⟨x8_1,x9_1,rfl,HA,HK1,HO_6,HO_8,HB⟩:=hrel
  cases gk with
  | zero=>exact absurd HA.out (by simp [foretellref_worked.l0])
  | succ k1 =>
   have H:=HA.out
   clear HA
   simp only [foretellref_worked.l0] at H
   by_cases c5:x9_1 < (t298.length:Int)
   ·rw [if_pos c5] at H
    have c5b0:decide (x9_1 < (t298.length:Int)) = true:=zQ c5
    clear c5
    by_cases c6:x8_1.length < 17592186044416
    ·rw [if_pos c6] at H
     have LMc6:=zA c6
     clear c6
     obtain ⟨y302,hy302⟩:∃ y_:List Int,y_ = (x8_1 ++ [0]):=⟨_,rfl⟩
     replace H:(foretellref_worked.l0 k1 l0 l1 t298 y302 (wrap64 (x9_1 + 1))) = some (r1,r2):=by first|(rw [hy302];with_reducible exact H)|(have H2_:=(Option.bind_some _ _).symm.trans H;rw [hy302];with_reducible exact H2_)|(have H2_:=(Option.bind_some _ _).symm.trans H;with_reducible exact H2_)|with_reducible exact H|(rw [hy302];exact H)|exact H
     have Ny302:=zA hy302
     clear hy302
     have H':=zA H
     clear H
     obtain ⟨Ao7,co7,eo7⟩:=Kd.S_slice HO_6.out
     subst eo7
     go_wp2_with (first|((with_reducible refine gate_builtin (b:=.append) (xs:=#[.tmp 26,.tmp 27]) rfl ?_);at_builtin;refine Kd.R_append (Kd.int .i64) (w0:=w) w.heap.size rfl (.tmp 26) (.tmp 27) 37 3 (.int .i64 0) 8 rfl Tryd.underlying37 info3 rfl (by decide) (by omega) u8 x8_1 0 [.int .i64 0] (fun _=>True) (fun _=>False) rfl rfl ?aP (fun _ hk=>hk.elim) ?aF ?aO ?aB ?aS ?aL ?_;(case aP=>exact rfl);(case aB=>exact (by repeat (first|(with_reducible first|exact HB.out|apply zD|apply zC|apply zE)|exact HB.out)));(case aF=>exact (fun _ _=>trivial));(case aO=>exact (by (with_reducible repeat (first|apply Kd.R_alloc|apply Kd.R_drewN|apply Kd.R_drew));exact HO_8.out));(case aS=>exact (zG (by repeat (first|(with_reducible first|exact HB.out|apply zD|apply zC|apply zE)|exact HB.out))));(case aL=>have:=LMc6.out;omega);intro v303 w8 ho hb hg hat;rw [← Ny302.out] at ho;have n0_:=zA (Kd.S_over' (by (with_reducible repeat (first|apply Kd.S_alloc|apply Kd.S_drewN|apply Kd.S_drew));exact HO_6.out) (Kd.R_typed (by (with_reducible repeat (first|apply Kd.R_alloc|apply Kd.R_drewN|apply Kd.R_drew));exact HO_8.out)) (by decide) hg);have n1_:=zA (hb);have n2_:=zA (ho);clear HO_6;clear HB;clear HO_8;have HO_6:=n0_;have HB:=n1_;have HO304:=n2_;clear n0_ n1_ n2_;clear ho hb hg hat))
     repeat (go_quiet (first|((with_reducible refine gate_builtin (b:=.append) (xs:=#[.tmp 26,.tmp 27]) rfl ?_);at_builtin;refine Kd.R_append (Kd.int .i64) (w0:=w) w.heap.size rfl (.tmp 26) (.tmp 27) 37 3 (.int .i64 0) 8 rfl Tryd.underlying37 info3 rfl (by decide) (by omega) u8 x8_1 0 [.int .i64 0] (fun _=>True) (fun _=>False) rfl rfl ?aP (fun _ hk=>hk.elim) ?aF ?aO ?aB ?aS ?aL ?_;(case aP=>exact rfl);(case aB=>exact (by repeat (first|(with_reducible first|exact HB.out|apply zD|apply zC|apply zE)|exact HB.out)));(case aF=>exact (fun _ _=>trivial));(case aO=>exact (by (with_reducible repeat (first|apply Kd.R_alloc|apply Kd.R_drewN|apply Kd.R_drew));exact HO_8.out));(case aS=>exact (zG (by repeat (first|(with_reducible first|exact HB.out|apply zD|apply zC|apply zE)|exact HB.out))));(case aL=>have:=LMc6.out;omega);intro v303 w8 ho hb hg hat;rw [← Ny302.out] at ho;have n0_:=zA (Kd.S_over' (by (with_reducible repeat (first|apply Kd.S_alloc|apply Kd.S_drewN|apply Kd.S_drew));exact HO_6.out) (Kd.R_typed (by (with_reducible repeat (first|apply Kd.R_alloc|apply Kd.R_drewN|apply Kd.R_drew));exact HO_8.out)) (by decide) hg);have n1_:=zA (hb);have n2_:=zA (ho);clear HO_6;clear HB;clear HO_8;have HO_6:=n0_;have HB:=n1_;have HO304:=n2_;clear n0_ n1_ n2_;clear ho hb hg hat));try go_wp2_with (first|((with_reducible refine gate_builtin (b:=.append) (xs:=#[.tmp 26,.tmp 27]) rfl ?_);at_builtin;refine Kd.R_append (Kd.int .i64) (w0:=w) w.heap.size rfl (.tmp 26) (.tmp 27) 37 3 (.int .i64 0) 8 rfl Tryd.underlying37 info3 rfl (by decide) (by omega) u8 x8_1 0 [.int .i64 0] (fun _=>True) (fun _=>False) rfl rfl ?aP (fun _ hk=>hk.elim) ?aF ?aO ?aB ?aS ?aL ?_;(case aP=>exact rfl);(case aB=>exact (by repeat (first|(with_reducible first|exact HB.out|apply zD|apply zC|apply zE)|exact HB.out)));(case aF=>exact (fun _ _=>trivial));(case aO=>exact (by (with_reducible repeat (first|apply Kd.R_alloc|apply Kd.R_drewN|apply Kd.R_drew));exact HO_8.out));(case aS=>exact (zG (by repeat (first|(with_reducible first|exact HB.out|apply zD|apply zC|apply zE)|exact HB.out))));(case aL=>have:=LMc6.out;omega);intro v303 w8 ho hb hg hat;rw [← Ny302.out] at ho;have n0_:=zA (Kd.S_over' (by (with_reducible repeat (first|apply Kd.S_alloc|apply Kd.S_drewN|apply Kd.S_drew));exact HO_6.out) (Kd.R_typed (by (with_reducible repeat (first|apply Kd.R_alloc|apply Kd.R_drewN|apply Kd.R_drew));exact HO_8.out)) (by decide) hg);have n1_:=zA (hb);have n2_:=zA (ho);clear HO_6;clear HB;clear HO_8;have HO_6:=n0_;have HB:=n1_;have HO304:=n2_;clear n0_ n1_ n2_;clear ho hb hg hat)))
     go_roundg k1
     case measure=>have:=HK1.out;omega
     case rel=>exact ⟨(y302),(wrap64 (x9_1 + 1)),(by first|rfl|(simp;done)|(simp [*];done)),H',⟨by have:=HK1.out;omega⟩,⟨by (with_reducible repeat (first|apply Kd.S_alloc|apply Kd.S_drewN|apply Kd.S_drew));exact HO_6.out⟩,⟨by (with_reducible repeat (first|apply Kd.R_alloc|apply Kd.R_drewN|apply Kd.R_drew));exact HO304.out⟩,⟨by repeat (first|(with_reducible first|exact HB.out|apply zD|apply zC|apply zE)|exact HB.out)⟩⟩
    ·rw [if_neg c6] at H
     exact absurd H (by simp)
   ·rw [if_neg c5] at H
    have c5b0:decide (x9_1 < (t298.length:Int)) = false:=zR c5
    clear c5
    have H':=zA H
    clear H
    obtain ⟨Ao9,co9,eo9⟩:=Kd.S_slice HO_6.out
    subst eo9
    go_wp2
    repeat (go_quiet (fail);try go_wp2)
    go_loopg [10] k1 (fun kq v10 w'=>∃ (x8_2:List Int) (x10_2:Int),v10 = .int .i64 x10_2∧Aside0 (foretellref_worked.l1 kq l0 l1 t298 x8_2 x10_2 = some (r1,r2))∧Aside0 (kq ≤ k1)∧Aside0 (Kd.S (Kd.slice 94 k94) 45 w' w.heap.size (fun _=>True) (.slice Ao9 t298.length co9) t298)∧Aside0 (Kd.R (Kd.int .i64) 3 w' w.heap.size (fun _=>True) u8 x8_2)∧Aside0 (Below w.heap.size w w'))
    case atStart=>exact ⟨(x8_1),(wrap64 ((t298.length:Int) - 1)),(by first|rfl|(simp;done)|(simp [*];done)),H',⟨Nat.le_refl _⟩,⟨by (with_reducible repeat (first|apply Kd.S_alloc|apply Kd.S_drewN|apply Kd.S_drew));exact HO_6.out⟩,⟨by (with_reducible repeat (first|apply Kd.R_alloc|apply Kd.R_drewN|apply Kd.R_drew));exact HO_8.out⟩,⟨by repeat (first|(with_reducible first|exact HB.out|apply zD|apply zC|apply zE)|exact HB.out)⟩⟩
    case round =>
     clear H'
     try clear c1
     try clear p2
     try clear c5
     try clear c5b0
     try clear c6
     try clear p6
     try clear c7
     try clear p2
     obtain ⟨x8_2,x10_2,rfl,HA,HK2,HO_6,HO_8,HB⟩:=hrel
     cases gk with
     | zero=>exact absurd HA.out (by simp [foretellref_worked.l1])
     | succ k2 =>
      have H:=HA.out
      clear HA
      simp only [foretellref_worked.l1] at H
      by_cases c10:x10_2 ≥ 0
      ·rw [if_pos c10] at H
       have c10b0:decide (0 ≤ x10_2) = true:=zQ c10
       clear c10
       by_cases c11:0 ≤ x10_2
       ·rw [if_pos c11] at H
        have c11b0:decide (0 ≤ x10_2) = true:=zQ c11
        clear c11
        by_cases c12:x10_2 < (t298.length:Int)
        ·rw [if_pos c12] at H
         have c12b0:decide (x10_2 < (t298.length:Int)) = true:=zQ c12
         clear c12
         replace H:=zb.mp H
         obtain ⟨⟨t306,t307⟩,A130,H⟩:=H
         replace H:(if t307 = 0 then (if x10_2 < (x8_2.length:Int) then (foretellref_worked.l1 k2 l0 l1 t298 (x8_2.set (x10_2:Int).toNat t306) (wrap64 (x10_2 - 1))) else (none)) else (some (0,t307))) = some (r1,r2):=H
         have A13:=zA A130
         clear A130
         by_cases c14:t307 = 0
         ·rw [if_pos c14] at H
          have c14b0:(t307 == 0) = true:=beq_iff_eq.mpr c14
          have c14b1:(t307 != 0) = false:=bne_eq_false_iff_eq.mpr c14
          clear c14
          by_cases c15:x10_2 < (x8_2.length:Int)
          ·rw [if_pos c15] at H
           have c15b0:decide (x10_2 < (x8_2.length:Int)) = true:=zQ c15
           clear c15
           obtain ⟨y308,hy308⟩:∃ y_:List Int,y_ = (x8_2.set (x10_2:Int).toNat t306):=⟨_,rfl⟩
           replace H:(foretellref_worked.l1 k2 l0 l1 t298 y308 (wrap64 (x10_2 - 1))) = some (r1,r2):=by first|(rw [hy308];with_reducible exact H)|(have H2_:=(Option.bind_some _ _).symm.trans H;rw [hy308];with_reducible exact H2_)|(have H2_:=(Option.bind_some _ _).symm.trans H;with_reducible exact H2_)|with_reducible exact H|(rw [hy308];exact H)|exact H
           have Ny308:=zA hy308
           clear hy308
           have H':=zA H
           clear H
           have p305:0 ≤ (x10_2:Int):=zP (by assumption)
           have q305:x10_2 < (t298.length:Int):=zP (by assumption)
           obtain ⟨ad305,A305_0,c305_0,e305,hx305_0,hl305_0,hi305_0⟩:=at_L4 (Kd.S_reads' HO_6.out).2.2 x10_2 p305 q305
           cases e305
           obtain ⟨ce305,hce305,hMe305,hcc305⟩:=Kd.S_get HO_6.out [] x10_2 p305 (by first|exact q305|exact zP (by assumption)|(have e_:=(Kd.S_reads' HO_6.out).1;omega))
           obtain ⟨ve305_0,rfl,ge305_0⟩:=hMe305
           have hv305_0:=hcc305 0 _ rfl
           rw [Nat.add_zero,show ((Kd.slice 94 k94)).sz = 1 from rfl,Nat.mul_one] at hv305_0
           replace hv305_0:=Option.some.inj (hv305_0.symm.trans hx305_0)
           rw [hv305_0] at ge305_0
           have HL305_0:=zA (show Kd.R k94 94 _ _ _ _ (rd_L4 t298 x10_2) from ge305_0)
           clear hv305_0 ge305_0
           clear hcc305 hce305
           have HR305_0:=zA hi305_0
           have HC305_0:=zA hl305_0
           clear hi305_0 hl305_0
           replace p305:=eq_true p305
           replace q305:=eq_true q305
           go_wp2_with (first|(go_at_call 79;(with_reducible refine (ih k2 (by have:=HK1.out;have:=HK2.out;omega) _ _ (rd_L4 t298 x10_2) _ _ l1 t306 t307 _ ?side1 ?side2 ?side3 ?side4 A13.out).mono ?_);(case side1=>repeat (first|exact (by repeat (first|(with_reducible exact HR305_0.out)|(with_reducible refine Kd.C_alloc ?_ _)|(with_reducible refine Kd.C_drewN ?_ _)|(with_reducible refine Kd.C_drew ?_)|exact HR305_0.out))|(with_reducible refine Kd.C_alloc ?_ _)|(with_reducible refine Kd.C_drewN ?_ _)|(with_reducible refine Kd.C_drew ?_)));(case side2=>exact HC305_0.out);(case side3=>repeat (first|exact (zT HR1.out HB.out)|(with_reducible refine Kd.C_alloc ?_ _)|(with_reducible refine Kd.C_drewN ?_ _)|(with_reducible refine Kd.C_drew ?_)));(case side4=>exact HC1.out);rintro e w17 ⟨rfl,hb⟩;have n0_:=zA (Kd.S_below (by (with_reducible repeat (first|apply Kd.S_alloc|apply Kd.S_drewN|apply Kd.S_drew));exact HO_6.out) hb);have n1_:=zA (Kd.R_below (by (with_reducible repeat (first|apply Kd.R_alloc|apply Kd.R_drewN|apply Kd.R_drew));exact HO_8.out) hb);have n2_:=zA (Kd.R_below (by (with_reducible repeat (first|apply Kd.R_alloc|apply Kd.R_drewN|apply Kd.R_drew));exact HL305_0.out) hb);have n3_:=zA (zT (by repeat (first|(with_reducible exact HR305_0.out)|(with_reducible refine Kd.C_alloc ?_ _)|(with_reducible refine Kd.C_drewN ?_ _)|(with_reducible refine Kd.C_drew ?_)|exact HR305_0.out)) hb);have n4_:=zA (zH (by repeat (first|(with_reducible first|exact HB.out|apply zD|apply zC|apply zE)|exact HB.out)) hb);clear HO_6;clear HO_8;clear HL305_0;clear HR305_0;clear HB;have HO_6:=n0_;have HO_8:=n1_;have HL305_0:=n2_;have HR305_0:=n3_;have HB:=n4_;clear n0_ n1_ n2_ n3_ n4_;(try clear hb);(try clear hb2);(try clear hk);(try clear hi);have p16:0 ≤ (x10_2:Int):=zP (by assumption);have q16:(x10_2:Int) < ((x8_2.length:Int):Int):=zP (by assumption);obtain ⟨go16,co16,eo16,gb16,gl16,cl16,HG16⟩:=Kd.R_form HO_8.out (by omega);(first|cases eo16|(injection eo16 with ea_ en_ ec_;(first|subst ea_|(injection ea_ with ea_;subst ea_));subst ec_;clear en_));have GB16:=zA gb16;have GG16:=zA HG16;clear gb16 gl16 HG16;obtain ⟨hx16_0,hf16_0⟩:=Kd.R_celln 0 HO_8.out (x10_2:Int) p16 q16;replace p16:=eq_true p16;replace q16:=eq_true q16;obtain ⟨hy18_,hz18_⟩:=Kd.R_celln 0 HO_8.out (x10_2:Int) (zP (by assumption)) (zP (by assumption));have HP18:=Kd.R_putg HO_8.out (x10_2:Int) t306)|((with_reducible refine gate_store (t:=3) (p:=51) rfl ?_);(try (rw [drewN_self w17];generalize hq_:World.drewN w17 _ = w17;have n0_:=zA (Kd.S_at hq_ HO_6.out);have n1_:=zA (Kd.R_at hq_ HO_8.out);have n2_:=zA (Kd.R_at hq_ HL305_0.out);have n3_:=zA (below_at hq_ HB.out);clear hq_ HO_6 HO_8 HL305_0 HB;have HO_6:=n0_;have HO_8:=n1_;have HL305_0:=n2_;have HB:=n3_;clear n0_ n1_ n2_ n3_;(try (obtain ⟨hy18_,hz18_⟩:=Kd.R_celln 0 HO_8.out (x10_2:Int) (zP (by assumption)) (zP (by assumption))));(try (have HP18:=Kd.R_putg HO_8.out (x10_2:Int) t306))));refine store_event (t:=3) (p:=51) (v:=?vo_w19) (w1:=(w17.setCell ⟨go16,(x10_2:Int).toNat,none⟩ (.int .i64 t306))) ?hg ?ho ?hn ?hr ?_;(case ho=>rfl);(case hg=>rfl);(case hn=>rfl);(case hr=>first|(go_simp;done)|(go_simp;rfl));intro w19 hw;have hg:w17.grownBy w19 (some go16):=(by rw [hw];exact HP18.2);have hp_:Kd.R (Kd.int .i64) 3 w19 w.heap.size (fun _=>True) (.slice (some ⟨go16,0,none⟩) x8_2.length co16) y308:=(by rw [hw,Ny308.out];exact HP18.1);clear HP18;have n0_:=zA (Kd.S_over' (v:=(.slice (some ⟨go16,0,none⟩) x8_2.length co16)) (by (with_reducible repeat (first|apply Kd.S_alloc|apply Kd.S_drewN|apply Kd.S_drew));exact HO_6.out) (Kd.R_typed HO_8.out) (by decide) hg);have n1_:=zA (hp_);have n2_:=zA (Kd.R_over' (v:=(.slice (some ⟨go16,0,none⟩) x8_2.length co16)) (by (with_reducible repeat (first|apply Kd.R_alloc|apply Kd.R_drewN|apply Kd.R_drew));exact HL305_0.out) (Kd.R_typed HO_8.out) (by decide) hg);have n3_:=zA ((by rw [hw];exact zF (HB.out) GB16.out:Below w.heap.size w w19));clear HO_6;clear HO_8;clear HL305_0;clear HB;have HO_6:=n0_;have HO_8:=n1_;have HL305_0:=n2_;have HB:=n3_;clear n0_ n1_ n2_ n3_;clear hg hw hp_))
           repeat (go_quiet (first|(go_at_call 79;(with_reducible refine (ih k2 (by have:=HK1.out;have:=HK2.out;omega) _ _ (rd_L4 t298 x10_2) _ _ l1 t306 t307 _ ?side1 ?side2 ?side3 ?side4 A13.out).mono ?_);(case side1=>repeat (first|exact (by repeat (first|(with_reducible exact HR305_0.out)|(with_reducible refine Kd.C_alloc ?_ _)|(with_reducible refine Kd.C_drewN ?_ _)|(with_reducible refine Kd.C_drew ?_)|exact HR305_0.out))|(with_reducible refine Kd.C_alloc ?_ _)|(with_reducible refine Kd.C_drewN ?_ _)|(with_reducible refine Kd.C_drew ?_)));(case side2=>exact HC305_0.out);(case side3=>repeat (first|exact (zT HR1.out HB.out)|(with_reducible refine Kd.C_alloc ?_ _)|(with_reducible refine Kd.C_drewN ?_ _)|(with_reducible refine Kd.C_drew ?_)));(case side4=>exact HC1.out);rintro e w17 ⟨rfl,hb⟩;have n0_:=zA (Kd.S_below (by (with_reducible repeat (first|apply Kd.S_alloc|apply Kd.S_drewN|apply Kd.S_drew));exact HO_6.out) hb);have n1_:=zA (Kd.R_below (by (with_reducible repeat (first|apply Kd.R_alloc|apply Kd.R_drewN|apply Kd.R_drew));exact HO_8.out) hb);have n2_:=zA (Kd.R_below (by (with_reducible repeat (first|apply Kd.R_alloc|apply Kd.R_drewN|apply Kd.R_drew));exact HL305_0.out) hb);have n3_:=zA (zT (by repeat (first|(with_reducible exact HR305_0.out)|(with_reducible refine Kd.C_alloc ?_ _)|(with_reducible refine Kd.C_drewN ?_ _)|(with_reducible refine Kd.C_drew ?_)|exact HR305_0.out)) hb);have n4_:=zA (zH (by repeat (first|(with_reducible first|exact HB.out|apply zD|apply zC|apply zE)|exact HB.out)) hb);clear HO_6;clear HO_8;clear HL305_0;clear HR305_0;clear HB;have HO_6:=n0_;have HO_8:=n1_;have HL305_0:=n2_;have HR305_0:=n3_;have HB:=n4_;clear n0_ n1_ n2_ n3_ n4_;(try clear hb);(try clear hb2);(try clear hk);(try clear hi);have p16:0 ≤ (x10_2:Int):=zP (by assumption);have q16:(x10_2:Int) < ((x8_2.length:Int):Int):=zP (by assumption);obtain ⟨go16,co16,eo16,gb16,gl16,cl16,HG16⟩:=Kd.R_form HO_8.out (by omega);(first|cases eo16|(injection eo16 with ea_ en_ ec_;(first|subst ea_|(injection ea_ with ea_;subst ea_));subst ec_;clear en_));have GB16:=zA gb16;have GG16:=zA HG16;clear gb16 gl16 HG16;obtain ⟨hx16_0,hf16_0⟩:=Kd.R_celln 0 HO_8.out (x10_2:Int) p16 q16;replace p16:=eq_true p16;replace q16:=eq_true q16;obtain ⟨hy18_,hz18_⟩:=Kd.R_celln 0 HO_8.out (x10_2:Int) (zP (by assumption)) (zP (by assumption));have HP18:=Kd.R_putg HO_8.out (x10_2:Int) t306)|((with_reducible refine gate_store (t:=3) (p:=51) rfl ?_);(try (rw [drewN_self w17];generalize hq_:World.drewN w17 _ = w17;have n0_:=zA (Kd.S_at hq_ HO_6.out);have n1_:=zA (Kd.R_at hq_ HO_8.out);have n2_:=zA (Kd.R_at hq_ HL305_0.out);have n3_:=zA (below_at hq_ HB.out);clear hq_ HO_6 HO_8 HL305_0 HB;have HO_6:=n0_;have HO_8:=n1_;have HL305_0:=n2_;have HB:=n3_;clear n0_ n1_ n2_ n3_;(try (obtain ⟨hy18_,hz18_⟩:=Kd.R_celln 0 HO_8.out (x10_2:Int) (zP (by assumption)) (zP (by assumption))));(try (have HP18:=Kd.R_putg HO_8.out (x10_2:Int) t306))));refine store_event (t:=3) (p:=51) (v:=?vo_w19) (w1:=(w17.setCell ⟨go16,(x10_2:Int).toNat,none⟩ (.int .i64 t306))) ?hg ?ho ?hn ?hr ?_;(case ho=>rfl);(case hg=>rfl);(case hn=>rfl);(case hr=>first|(go_simp;done)|(go_simp;rfl));intro w19 hw;have hg:w17.grownBy w19 (some go16):=(by rw [hw];exact HP18.2);have hp_:Kd.R (Kd.int .i64) 3 w19 w.heap.size (fun _=>True) (.slice (some ⟨go16,0,none⟩) x8_2.length co16) y308:=(by rw [hw,Ny308.out];exact HP18.1);clear HP18;have n0_:=zA (Kd.S_over' (v:=(.slice (some ⟨go16,0,none⟩) x8_2.length co16)) (by (with_reducible repeat (first|apply Kd.S_alloc|apply Kd.S_drewN|apply Kd.S_drew));exact HO_6.out) (Kd.R_typed HO_8.out) (by decide) hg);have n1_:=zA (hp_);have n2_:=zA (Kd.R_over' (v:=(.slice (some ⟨go16,0,none⟩) x8_2.length co16)) (by (with_reducible repeat (first|apply Kd.R_alloc|apply Kd.R_drewN|apply Kd.R_drew));exact HL305_0.out) (Kd.R_typed HO_8.out) (by decide) hg);have n3_:=zA ((by rw [hw];exact zF (HB.out) GB16.out:Below w.heap.size w w19));clear HO_6;clear HO_8;clear HL305_0;clear HB;have HO_6:=n0_;have HO_8:=n1_;have HL305_0:=n2_;have HB:=n3_;clear n0_ n1_ n2_ n3_;clear hg hw hp_));try go_wp2_with (first|(go_at_call 79;(with_reducible refine (ih k2 (by have:=HK1.out;have:=HK2.out;omega) _ _ (rd_L4 t298 x10_2) _ _ l1 t306 t307 _ ?side1 ?side2 ?side3 ?side4 A13.out).mono ?_);(case side1=>repeat (first|exact (by repeat (first|(with_reducible exact HR305_0.out)|(with_reducible refine Kd.C_alloc ?_ _)|(with_reducible refine Kd.C_drewN ?_ _)|(with_reducible refine Kd.C_drew ?_)|exact HR305_0.out))|(with_reducible refine Kd.C_alloc ?_ _)|(with_reducible refine Kd.C_drewN ?_ _)|(with_reducible refine Kd.C_drew ?_)));(case side2=>exact HC305_0.out);(case side3=>repeat (first|exact (zT HR1.out HB.out)|(with_reducible refine Kd.C_alloc ?_ _)|(with_reducible refine Kd.C_drewN ?_ _)|(with_reducible refine Kd.C_drew ?_)));(case side4=>exact HC1.out);rintro e w17 ⟨rfl,hb⟩;have n0_:=zA (Kd.S_below (by (with_reducible repeat (first|apply Kd.S_alloc|apply Kd.S_drewN|apply Kd.S_drew));exact HO_6.out) hb);have n1_:=zA (Kd.R_below (by (with_reducible repeat (first|apply Kd.R_alloc|apply Kd.R_drewN|apply Kd.R_drew));exact HO_8.out) hb);have n2_:=zA (Kd.R_below (by (with_reducible repeat (first|apply Kd.R_alloc|apply Kd.R_drewN|apply Kd.R_drew));exact HL305_0.out) hb);have n3_:=zA (zT (by repeat (first|(with_reducible exact HR305_0.out)|(with_reducible refine Kd.C_alloc ?_ _)|(with_reducible refine Kd.C_drewN ?_ _)|(with_reducible refine Kd.C_drew ?_)|exact HR305_0.out)) hb);have n4_:=zA (zH (by repeat (first|(with_reducible first|exact HB.out|apply zD|apply zC|apply zE)|exact HB.out)) hb);clear HO_6;clear HO_8;clear HL305_0;clear HR305_0;clear HB;have HO_6:=n0_;have HO_8:=n1_;have HL305_0:=n2_;have HR305_0:=n3_;have HB:=n4_;clear n0_ n1_ n2_ n3_ n4_;(try clear hb);(try clear hb2);(try clear hk);(try clear hi);have p16:0 ≤ (x10_2:Int):=zP (by assumption);have q16:(x10_2:Int) < ((x8_2.length:Int):Int):=zP (by assumption);obtain ⟨go16,co16,eo16,gb16,gl16,cl16,HG16⟩:=Kd.R_form HO_8.out (by omega);(first|cases eo16|(injection eo16 with ea_ en_ ec_;(first|subst ea_|(injection ea_ with ea_;subst ea_));subst ec_;clear en_));have GB16:=zA gb16;have GG16:=zA HG16;clear gb16 gl16 HG16;obtain ⟨hx16_0,hf16_0⟩:=Kd.R_celln 0 HO_8.out (x10_2:Int) p16 q16;replace p16:=eq_true p16;replace q16:=eq_true q16;obtain ⟨hy18_,hz18_⟩:=Kd.R_celln 0 HO_8.out (x10_2:Int) (zP (by assumption)) (zP (by assumption));have HP18:=Kd.R_putg HO_8.out (x10_2:Int) t306)|((with_reducible refine gate_store (t:=3) (p:=51) rfl ?_);(try (rw [drewN_self w17];generalize hq_:World.drewN w17 _ = w17;have n0_:=zA (Kd.S_at hq_ HO_6.out);have n1_:=zA (Kd.R_at hq_ HO_8.out);have n2_:=zA (Kd.R_at hq_ HL305_0.out);have n3_:=zA (below_at hq_ HB.out);clear hq_ HO_6 HO_8 HL305_0 HB;have HO_6:=n0_;have HO_8:=n1_;have HL305_0:=n2_;have HB:=n3_;clear n0_ n1_ n2_ n3_;(try (obtain ⟨hy18_,hz18_⟩:=Kd.R_celln 0 HO_8.out (x10_2:Int) (zP (by assumption)) (zP (by assumption))));(try (have HP18:=Kd.R_putg HO_8.out (x10_2:Int) t306))));refine store_event (t:=3) (p:=51) (v:=?vo_w19) (w1:=(w17.setCell ⟨go16,(x10_2:Int).toNat,none⟩ (.int .i64 t306))) ?hg ?ho ?hn ?hr ?_;(case ho=>rfl);(case hg=>rfl);(case hn=>rfl);(case hr=>first|(go_simp;done)|(go_simp;rfl));intro w19 hw;have hg:w17.grownBy w19 (some go16):=(by rw [hw];exact HP18.2);have hp_:Kd.R (Kd.int .i64) 3 w19 w.heap.size (fun _=>True) (.slice (some ⟨go16,0,none⟩) x8_2.length co16) y308:=(by rw [hw,Ny308.out];exact HP18.1);clear HP18;have n0_:=zA (Kd.S_over' (v:=(.slice (some ⟨go16,0,none⟩) x8_2.length co16)) (by (with_reducible repeat (first|apply Kd.S_alloc|apply Kd.S_drewN|apply Kd.S_drew));exact HO_6.out) (Kd.R_typed HO_8.out) (by decide) hg);have n1_:=zA (hp_);have n2_:=zA (Kd.R_over' (v:=(.slice (some ⟨go16,0,none⟩) x8_2.length co16)) (by (with_reducible repeat (first|apply Kd.R_alloc|apply Kd.R_drewN|apply Kd.R_drew));exact HL305_0.out) (Kd.R_typed HO_8.out) (by decide) hg);have n3_:=zA ((by rw [hw];exact zF (HB.out) GB16.out:Below w.heap.size w w19));clear HO_6;clear HO_8;clear HL305_0;clear HB;have HO_6:=n0_;have HO_8:=n1_;have HL305_0:=n2_;have HB:=n3_;clear n0_ n1_ n2_ n3_;clear hg hw hp_)))
           go_roundg k2
           case measure=>have:=HK1.out;have:=HK2.out;omega
           case rel=>exact ⟨(y308),(wrap64 (x10_2 - 1)),(by first|rfl|(simp;done)|(simp [*];done)),H',⟨by have:=HK1.out;have:=HK2.out;omega⟩,⟨by (with_reducible repeat (first|apply Kd.S_alloc|apply Kd.S_drewN|apply Kd.S_drew));exact HO_6.out⟩,⟨by (with_reducible repeat (first|apply Kd.R_alloc|apply Kd.R_drewN|apply Kd.R_drew));exact HO_8.out⟩,⟨by repeat (first|(with_reducible first|exact HB.out|apply zD|apply zC|apply zE)|exact HB.out)⟩⟩
          ·rw [if_neg c15] at H
           exact absurd H (by simp)
         ·rw [if_neg c14] at H
          have c14b0:(t307 == 0) = false:=beq_eq_false_iff_ne.mpr c14
          have c14b1:(t307 != 0) = true:=bne_iff_ne.mpr c14
          simp only [Option.some.injEq,Prod.mk.injEq] at H
          obtain ⟨rfl,rfl⟩:=H
          have p305:0 ≤ (x10_2:Int):=zP (by assumption)
          have q305:x10_2 < (t298.length:Int):=zP (by assumption)
          obtain ⟨ad305,A305_0,c305_0,e305,hx305_0,hl305_0,hi305_0⟩:=at_L4 (Kd.S_reads' HO_6.out).2.2 x10_2 p305 q305
          cases e305
          obtain ⟨ce305,hce305,hMe305,hcc305⟩:=Kd.S_get HO_6.out [] x10_2 p305 (by first|exact q305|exact zP (by assumption)|(have e_:=(Kd.S_reads' HO_6.out).1;omega))
          obtain ⟨ve305_0,rfl,ge305_0⟩:=hMe305
          have hv305_0:=hcc305 0 _ rfl
          rw [Nat.add_zero,show ((Kd.slice 94 k94)).sz = 1 from rfl,Nat.mul_one] at hv305_0
          replace hv305_0:=Option.some.inj (hv305_0.symm.trans hx305_0)
          rw [hv305_0] at ge305_0
          have HL305_0:=zA (show Kd.R k94 94 _ _ _ _ (rd_L4 t298 x10_2) from ge305_0)
          clear hv305_0 ge305_0
          clear hcc305 hce305
          have HR305_0:=zA hi305_0
          have HC305_0:=zA hl305_0
          clear hi305_0 hl305_0
          replace p305:=eq_true p305
          replace q305:=eq_true q305
          go_wp2_with (first|(go_at_call 79;(with_reducible refine (ih k2 (by have:=HK1.out;have:=HK2.out;omega) _ _ (rd_L4 t298 x10_2) _ _ l1 t306 t307 _ ?side1 ?side2 ?side3 ?side4 A13.out).mono ?_);(case side1=>repeat (first|exact (by repeat (first|(with_reducible exact HR305_0.out)|(with_reducible refine Kd.C_alloc ?_ _)|(with_reducible refine Kd.C_drewN ?_ _)|(with_reducible refine Kd.C_drew ?_)|exact HR305_0.out))|(with_reducible refine Kd.C_alloc ?_ _)|(with_reducible refine Kd.C_drewN ?_ _)|(with_reducible refine Kd.C_drew ?_)));(case side2=>exact HC305_0.out);(case side3=>repeat (first|exact (zT HR1.out HB.out)|(with_reducible refine Kd.C_alloc ?_ _)|(with_reducible refine Kd.C_drewN ?_ _)|(with_reducible refine Kd.C_drew ?_)));(case side4=>exact HC1.out);rintro e w20 ⟨rfl,hb⟩;have n0_:=zA (Kd.S_below (by (with_reducible repeat (first|apply Kd.S_alloc|apply Kd.S_drewN|apply Kd.S_drew));exact HO_6.out) hb);have n1_:=zA (Kd.R_below (by (with_reducible repeat (first|apply Kd.R_alloc|apply Kd.R_drewN|apply Kd.R_drew));exact HO_8.out) hb);have n2_:=zA (Kd.R_below (by (with_reducible repeat (first|apply Kd.R_alloc|apply Kd.R_drewN|apply Kd.R_drew));exact HL305_0.out) hb);have n3_:=zA (zT (by repeat (first|(with_reducible exact HR305_0.out)|(with_reducible refine Kd.C_alloc ?_ _)|(with_reducible refine Kd.C_drewN ?_ _)|(with_reducible refine Kd.C_drew ?_)|exact HR305_0.out)) hb);have n4_:=zA (zH (by repeat (first|(with_reducible first|exact HB.out|apply zD|apply zC|apply zE)|exact HB.out)) hb);clear HO_6;clear HO_8;clear HL305_0;clear HR305_0;clear HB;have HO_6:=n0_;have HO_8:=n1_;have HL305_0:=n2_;have HR305_0:=n3_;have HB:=n4_;clear n0_ n1_ n2_ n3_ n4_;(try clear hb);(try clear hb2);(try clear hk);(try clear hi)))
          repeat (go_quiet (first|(go_at_call 79;(with_reducible refine (ih k2 (by have:=HK1.out;have:=HK2.out;omega) _ _ (rd_L4 t298 x10_2) _ _ l1 t306 t307 _ ?side1 ?side2 ?side3 ?side4 A13.out).mono ?_);(case side1=>repeat (first|exact (by repeat (first|(with_reducible exact HR305_0.out)|(with_reducible refine Kd.C_alloc ?_ _)|(with_reducible refine Kd.C_drewN ?_ _)|(with_reducible refine Kd.C_drew ?_)|exact HR305_0.out))|(with_reducible refine Kd.C_alloc ?_ _)|(with_reducible refine Kd.C_drewN ?_ _)|(with_reducible refine Kd.C_drew ?_)));(case side2=>exact HC305_0.out);(case side3=>repeat (first|exact (zT HR1.out HB.out)|(with_reducible refine Kd.C_alloc ?_ _)|(with_reducible refine Kd.C_drewN ?_ _)|(with_reducible refine Kd.C_drew ?_)));(case side4=>exact HC1.out);rintro e w20 ⟨rfl,hb⟩;have n0_:=zA (Kd.S_below (by (with_reducible repeat (first|apply Kd.S_alloc|apply Kd.S_drewN|apply Kd.S_drew));exact HO_6.out) hb);have n1_:=zA (Kd.R_below (by (with_reducible repeat (first|apply Kd.R_alloc|apply Kd.R_drewN|apply Kd.R_drew));exact HO_8.out) hb);have n2_:=zA (Kd.R_below (by (with_reducible repeat (first|apply Kd.R_alloc|apply Kd.R_drewN|apply Kd.R_drew));exact HL305_0.out) hb);have n3_:=zA (zT (by repeat (first|(with_reducible exact HR305_0.out)|(with_reducible refine Kd.C_alloc ?_ _)|(with_reducible refine Kd.C_drewN ?_ _)|(with_reducible refine Kd.C_drew ?_)|exact HR305_0.out)) hb);have n4_:=zA (zH (by repeat (first|(with_reducible first|exact HB.out|apply zD|apply zC|apply zE)|exact HB.out)) hb);clear HO_6;clear HO_8;clear HL305_0;clear HR305_0;clear HB;have HO_6:=n0_;have HO_8:=n1_;have HL305_0:=n2_;have HR305_0:=n3_;have HB:=n4_;clear n0_ n1_ n2_ n3_ n4_;(try clear hb);(try clear hb2);(try clear hk);(try clear hi)));try go_wp2_with (first|(go_at_call 79;(with_reducible refine (ih k2 (by have:=HK1.out;have:=HK2.out;omega) _ _ (rd_L4 t298 x10_2) _ _ l1 t306 t307 _ ?side1 ?side2 ?side3 ?side4 A13.out).mono ?_);(case side1=>repeat (first|exact (by repeat (first|(with_reducible exact HR305_0.out)|(with_reducible refine Kd.C_alloc ?_ _)|(with_reducible refine Kd.C_drewN ?_ _)|(with_reducible refine Kd.C_drew ?_)|exact HR305_0.out))|(with_reducible refine Kd.C_alloc ?_ _)|(with_reducible refine Kd.C_drewN ?_ _)|(with_reducible refine Kd.C_drew ?_)));(case side2=>exact HC305_0.out);(case side3=>repeat (first|exact (zT HR1.out HB.out)|(with_reducible refine Kd.C_alloc ?_ _)|(with_reducible refine Kd.C_drewN ?_ _)|(with_reducible refine Kd.C_drew ?_)));(case side4=>exact HC1.out);rintro e w20 ⟨rfl,hb⟩;have n0_:=zA (Kd.S_below (by (with_reducible repeat (first|apply Kd.S_alloc|apply Kd.S_drewN|apply Kd.S_drew));exact HO_6.out) hb);have n1_:=zA (Kd.R_below (by (with_reducible repeat (first|apply Kd.R_alloc|apply Kd.R_drewN|apply Kd.R_drew));exact HO_8.out) hb);have n2_:=zA (Kd.R_below (by (with_reducible repeat (first|apply Kd.R_alloc|apply Kd.R_drewN|apply Kd.R_drew));exact HL305_0.out) hb);have n3_:=zA (zT (by repeat (first|(with_reducible exact HR305_0.out)|(with_reducible refine Kd.C_alloc ?_ _)|(with_reducible refine Kd.C_drewN ?_ _)|(with_reducible refine Kd.C_drew ?_)|exact HR305_0.out)) hb);have n4_:=zA (zH (by repeat (first|(with_reducible first|exact HB.out|apply zD|apply zC|apply zE)|exact HB.out)) hb);clear HO_6;clear HO_8;clear HL305_0;clear HR305_0;clear HB;have HO_6:=n0_;have HO_8:=n1_;have HL305_0:=n2_;have HR305_0:=n3_;have HB:=n4_;clear n0_ n1_ n2_ n3_ n4_;(try clear hb);(try clear hb2);(try clear hk);(try clear hi))))
          go_ret2
          exact ⟨by first|rfl|(simp [errW_none,errW_some] <;> rfl)|(simp [*,errW_none,errW_some] <;> rfl),by repeat (first|(with_reducible first|exact HB.out|apply zD|apply zC|apply zE)|exact HB.out)⟩
        ·rw [if_neg c12] at H
         exact absurd H (by simp)
       ·rw [if_neg c11] at H
        exact absurd H (by simp)
      ·rw [if_neg c10] at H
       have c10b0:decide (0 ≤ x10_2) = false:=zR c10
       clear c10
       by_cases c21:0 < (l0.length:Int)
       ·rw [if_pos c21] at H
        have c21b0:decide (0 < (l0.length:Int)) = true:=zQ c21
        have c21b1:decide (0 < l0.length) = true:=zQ (by omega)
        clear c21
        have HC22:=zA H
        clear H
        have p309:0 ≤ (0:Int):=(by omega)
        have q309:0 < (l0.length:Int):=zP (by assumption)
        obtain ⟨ad309,e309,hx309_0,hx309_1⟩:=at_T94 HR0.out 0 p309 q309
        cases e309
        have qi309:(0 < l0.length) = True:=eq_true (by omega)
        (try rw [show ((0:Int)).toNat = 0 from rfl] at hx309_0)
        (try rw [show 0 * 2 = 0 from rfl] at hx309_0)
        (try rw [Addr.add_zero'] at hx309_0)
        (try rw [show ((0:Int)).toNat = 0 from rfl] at hx309_1)
        (try rw [show 0 * 2 = 0 from rfl] at hx309_1)
        (try rw [Addr.add_zero'] at hx309_1)
        replace hx309_0:=(HB.out.cell (zB w _ hx309_0)).trans hx309_0
        replace hx309_1:=(HB.out.cell (zB w _ hx309_1)).trans hx309_1
        replace p309:=eq_true p309
        replace q309:=eq_true q309
        go_upto_block 4 with (fail)
        repeat (go_quiet (fail);go_upto_block 4 with (fail))
        go_cut [13,14] (fun v13 v14 wc=>∃ (kq:Nat) (x13_21:Int) (x14_21:Bool),v13 = .int .i64 x13_21∧v14 = .bool x14_21∧Aside0 (foretellref_worked.j2 kq x13_21 x14_21 = some (r1,r2))∧Aside0 (kq ≤ k2)∧Aside0 (Below w.heap.size w wc))
        case first =>
         have H:=HC22.out
         clear HC22
         by_cases c23:((rd_T94 l0 0).f0) = 1
         ·rw [if_pos c23] at H
          have c23b0:(((rd_T94 l0 0).f0) == 1) = true:=beq_iff_eq.mpr c23
          have c23b1:(((rd_T94 l0 0).f0) != 1) = false:=bne_eq_false_iff_eq.mpr c23
          clear c23
          (first|rw [c23b0]|(simp only [i64_w,i32_w];rw [c23b0])|skip)
          have H':=zA H
          clear H
          have p310:0 ≤ (0:Int):=(by omega)
          have q310:0 < (l0.length:Int):=zP (by assumption)
          obtain ⟨ad310,e310,hx310_0,hx310_1⟩:=at_T94 HR0.out 0 p310 q310
          obtain rfl:ad309 = ad310:=(by injection e310)
          have qi310:(0 < l0.length) = True:=eq_true (by omega)
          (try rw [show ((0:Int)).toNat = 0 from rfl] at hx310_0)
          (try rw [show 0 * 2 = 0 from rfl] at hx310_0)
          (try rw [Addr.add_zero'] at hx310_0)
          (try rw [show ((0:Int)).toNat = 0 from rfl] at hx310_1)
          (try rw [show 0 * 2 = 0 from rfl] at hx310_1)
          (try rw [Addr.add_zero'] at hx310_1)
          replace hx310_0:=(HB.out.cell (zB w _ hx310_0)).trans hx310_0
          replace hx310_1:=(HB.out.cell (zB w _ hx310_1)).trans hx310_1
          replace p310:=eq_true p310
          replace q310:=eq_true q310
          go_wp2
          repeat (go_quiet (fail);try go_wp2)
          go_meet
          case rel=>exact ⟨_,((rd_T94 l0 0).f1),(false),(by first|rfl|(simp;done)|(simp [*];done)),(by first|rfl|(simp;done)|(simp [*];done)),H',⟨by have:=HK1.out;have:=HK2.out;first|omega|exact Nat.le_refl _⟩,⟨by repeat (first|(with_reducible first|exact HB.out|apply zD|apply zC|apply zE)|exact HB.out)⟩⟩
         ·rw [if_neg c23] at H
          have c23b0:(((rd_T94 l0 0).f0) == 1) = false:=beq_eq_false_iff_ne.mpr c23
          have c23b1:(((rd_T94 l0 0).f0) != 1) = true:=bne_iff_ne.mpr c23
          (first|rw [c23b0]|(simp only [i64_w,i32_w];rw [c23b0])|skip)
          by_cases c24:((rd_T94 l0 0).f0) = 2
          ·rw [if_pos c24] at H
           have c24b0:(((rd_T94 l0 0).f0) == 2) = true:=beq_iff_eq.mpr c24
           have c24b1:(((rd_T94 l0 0).f0) != 2) = false:=bne_eq_false_iff_eq.mpr c24
           clear c24
           by_cases c25:0 ≤ ((rd_T94 l0 0).f1)
           ·rw [if_pos c25] at H
            have c25b0:decide (0 ≤ ((rd_T94 l0 0).f1)) = true:=zQ c25
            clear c25
            by_cases c26:((rd_T94 l0 0).f1) < (l1.length:Int)
            ·rw [if_pos c26] at H
             have c26b0:decide (((rd_T94 l0 0).f1) < (l1.length:Int)) = true:=zQ c26
             clear c26
             have H':=zA H
             clear H
             have p311:0 ≤ (0:Int):=(by omega)
             have q311:0 < (l0.length:Int):=zP (by assumption)
             obtain ⟨ad311,e311,hx311_0,hx311_1⟩:=at_T94 HR0.out 0 p311 q311
             obtain rfl:ad309 = ad311:=(by injection e311)
             have qi311:(0 < l0.length) = True:=eq_true (by omega)
             (try rw [show ((0:Int)).toNat = 0 from rfl] at hx311_0)
             (try rw [show 0 * 2 = 0 from rfl] at hx311_0)
             (try rw [Addr.add_zero'] at hx311_0)
             (try rw [show ((0:Int)).toNat = 0 from rfl] at hx311_1)
             (try rw [show 0 * 2 = 0 from rfl] at hx311_1)
             (try rw [Addr.add_zero'] at hx311_1)
             replace hx311_0:=(HB.out.cell (zB w _ hx311_0)).trans hx311_0
             replace hx311_1:=(HB.out.cell (zB w _ hx311_1)).trans hx311_1
             replace p311:=eq_true p311
             replace q311:=eq_true q311
             have p312:0 ≤ (((rd_T94 l0 0).f1):Int):=zP (by assumption)
             have q312:((rd_T94 l0 0).f1) < (l1.length:Int):=zP (by assumption)
             obtain ⟨ad312,e312,hx312_0⟩:=Kd.at_int HR1.out ((rd_T94 l0 0).f1) p312 q312
             cases e312
             replace hx312_0:=(HB.out.cell (zB w _ hx312_0)).trans hx312_0
             replace p312:=eq_true p312
             replace q312:=eq_true q312
             go_wp2
             repeat (go_quiet (fail);try go_wp2)
             go_meet
             case rel=>exact ⟨_,(rd l1 ((rd_T94 l0 0).f1)),(false),(by first|rfl|(simp;done)|(simp [*];done)),(by first|rfl|(simp;done)|(simp [*];done)),H',⟨by have:=HK1.out;have:=HK2.out;first|omega|exact Nat.le_refl _⟩,⟨by repeat (first|(with_reducible first|exact HB.out|apply zD|apply zC|apply zE)|exact HB.out)⟩⟩
            ·rw [if_neg c26] at H
             exact absurd H (by simp)
           ·rw [if_neg c25] at H
            exact absurd H (by simp)
          ·rw [if_neg c24] at H
           have c24b0:(((rd_T94 l0 0).f0) == 2) = false:=beq_eq_false_iff_ne.mpr c24
           have c24b1:(((rd_T94 l0 0).f0) != 2) = true:=bne_iff_ne.mpr c24
           by_cases c27:((rd_T94 l0 0).f0) = 3
           ·rw [if_pos c27] at H
            have c27b0:(((rd_T94 l0 0).f0) == 3) = true:=beq_iff_eq.mpr c27
            have c27b1:(((rd_T94 l0 0).f0) != 3) = false:=bne_eq_false_iff_eq.mpr c27
            clear c27
            by_cases c28:0 < (x8_2.length:Int)
            ·rw [if_pos c28] at H
             have c28b0:decide (0 < (x8_2.length:Int)) = true:=zQ c28
             have c28b1:decide (0 < x8_2.length) = true:=zQ (by omega)
             clear c28
             by_cases c29:1 < (x8_2.length:Int)
             ·rw [if_pos c29] at H
              have c29b0:decide (1 < (x8_2.length:Int)) = true:=zQ c29
              have c29b1:decide (1 < x8_2.length) = true:=zQ (by omega)
              clear c29
              have H':=zA H
              clear H
              obtain ⟨Ao30,co30,eo30⟩:=Kd.R_slice HO_8.out
              subst eo30
              have p313:0 ≤ (0:Int):=(by omega)
              have q313:0 < (x8_2.length:Int):=zP (by assumption)
              (try (obtain ⟨A_,c_,e_⟩:=Kd.R_slice HO_8.out;subst e_))
              obtain ⟨ad313,e313,hx313_0⟩:=Kd.at_int (Kd.R_reads' HO_8.out).2.2 0 p313 q313
              cases e313
              have qi313:(0 < x8_2.length) = True:=eq_true (by omega)
              (try rw [show ((0:Int)).toNat = 0 from rfl] at hx313_0)
              (try rw [Addr.add_zero'] at hx313_0)
              replace p313:=eq_true p313
              replace q313:=eq_true q313
              have p314:0 ≤ (1:Int):=(by omega)
              have q314:1 < (x8_2.length:Int):=zP (by assumption)
              (try (obtain ⟨A_,c_,e_⟩:=Kd.R_slice HO_8.out;subst e_))
              obtain ⟨ad314,e314,hx314_0⟩:=Kd.at_int (Kd.R_reads' HO_8.out).2.2 1 p314 q314
              obtain rfl:ad313 = ad314:=(by injection e314)
              (try simp only [show (1:Int).toNat = 1 from rfl,Nat.reduceMul,Nat.reduceEqDiff,Go.Addr.add,↓reduceIte] at hx314_0)
              have qi314:(1 < x8_2.length) = True:=eq_true (by omega)
              (try rw [show ((1:Int)).toNat = 1 from rfl] at hx314_0)
              replace p314:=eq_true p314
              replace q314:=eq_true q314
              go_wp2
              repeat (go_quiet (fail);try go_wp2)
              go_meet
              case rel=>exact ⟨_,(wrap64 ((rd x8_2 0) + (rd x8_2 1))),(false),(by first|rfl|(simp;done)|(simp [*];done)),(by first|rfl|(simp;done)|(simp [*];done)),H',⟨by have:=HK1.out;have:=HK2.out;first|omega|exact Nat.le_refl _⟩,⟨by repeat (first|(with_reducible first|exact HB.out|apply zD|apply zC|apply zE)|exact HB.out)⟩⟩
             ·rw [if_neg c29] at H
              exact absurd H (by simp)
            ·rw [if_neg c28] at H
             exact absurd H (by simp)
           ·rw [if_neg c27] at H
            have c27b0:(((rd_T94 l0 0).f0) == 3) = false:=beq_eq_false_iff_ne.mpr c27
            have c27b1:(((rd_T94 l0 0).f0) != 3) = true:=bne_iff_ne.mpr c27
            by_cases c31:((rd_T94 l0 0).f0) = 4
            ·rw [if_pos c31] at H
             have c31b0:(((rd_T94 l0 0).f0) == 4) = true:=beq_iff_eq.mpr c31
             have c31b1:(((rd_T94 l0 0).f0) != 4) = false:=bne_eq_false_iff_eq.mpr c31
             clear c31
             by_cases c32:0 < (x8_2.length:Int)
             ·rw [if_pos c32] at H
              have c32b0:decide (0 < (x8_2.length:Int)) = true:=zQ c32
              have c32b1:decide (0 < x8_2.length) = true:=zQ (by omega)
              clear c32
              by_cases c33:1 < (x8_2.length:Int)
              ·rw [if_pos c33] at H
               have c33b0:decide (1 < (x8_2.length:Int)) = true:=zQ c33
               have c33b1:decide (1 < x8_2.length) = true:=zQ (by omega)
               clear c33
               have H':=zA H
               clear H
               obtain ⟨Ao34,co34,eo34⟩:=Kd.R_slice HO_8.out
               subst eo34
               have p315:0 ≤ (0:Int):=(by omega)
               have q315:0 < (x8_2.length:Int):=zP (by assumption)
               (try (obtain ⟨A_,c_,e_⟩:=Kd.R_slice HO_8.out;subst e_))
               obtain ⟨ad315,e315,hx315_0⟩:=Kd.at_int (Kd.R_reads' HO_8.out).2.2 0 p315 q315
               cases e315
               have qi315:(0 < x8_2.length) = True:=eq_true (by omega)
               (try rw [show ((0:Int)).toNat = 0 from rfl] at hx315_0)
               (try rw [Addr.add_zero'] at hx315_0)
               replace p315:=eq_true p315
               replace q315:=eq_true q315
               have p316:0 ≤ (1:Int):=(by omega)
               have q316:1 < (x8_2.length:Int):=zP (by assumption)
               (try (obtain ⟨A_,c_,e_⟩:=Kd.R_slice HO_8.out;subst e_))
               obtain ⟨ad316,e316,hx316_0⟩:=Kd.at_int (Kd.R_reads' HO_8.out).2.2 1 p316 q316
               obtain rfl:ad315 = ad316:=(by injection e316)
               (try simp only [show (1:Int).toNat = 1 from rfl,Nat.reduceMul,Nat.reduceEqDiff,Go.Addr.add,↓reduceIte] at hx316_0)
               have qi316:(1 < x8_2.length) = True:=eq_true (by omega)
               (try rw [show ((1:Int)).toNat = 1 from rfl] at hx316_0)
               replace p316:=eq_true p316
               replace q316:=eq_true q316
               go_wp2
               repeat (go_quiet (fail);try go_wp2)
               go_meet
               case rel=>exact ⟨_,(wrap64 ((rd x8_2 0) - (rd x8_2 1))),(false),(by first|rfl|(simp;done)|(simp [*];done)),(by first|rfl|(simp;done)|(simp [*];done)),H',⟨by have:=HK1.out;have:=HK2.out;first|omega|exact Nat.le_refl _⟩,⟨by repeat (first|(with_reducible first|exact HB.out|apply zD|apply zC|apply zE)|exact HB.out)⟩⟩
              ·rw [if_neg c33] at H
               exact absurd H (by simp)
             ·rw [if_neg c32] at H
              exact absurd H (by simp)
            ·rw [if_neg c31] at H
             have c31b0:(((rd_T94 l0 0).f0) == 4) = false:=beq_eq_false_iff_ne.mpr c31
             have c31b1:(((rd_T94 l0 0).f0) != 4) = true:=bne_iff_ne.mpr c31
             by_cases c35:((rd_T94 l0 0).f0) = 5
             ·rw [if_pos c35] at H
              have c35b0:(((rd_T94 l0 0).f0) == 5) = true:=beq_iff_eq.mpr c35
              have c35b1:(((rd_T94 l0 0).f0) != 5) = false:=bne_eq_false_iff_eq.mpr c35
              clear c35
              by_cases c36:0 < (x8_2.length:Int)
              ·rw [if_pos c36] at H
               have c36b0:decide (0 < (x8_2.length:Int)) = true:=zQ c36
               have c36b1:decide (0 < x8_2.length) = true:=zQ (by omega)
               clear c36
               by_cases c37:1 < (x8_2.length:Int)
               ·rw [if_pos c37] at H
                have c37b0:decide (1 < (x8_2.length:Int)) = true:=zQ c37
                have c37b1:decide (1 < x8_2.length) = true:=zQ (by omega)
                clear c37
                have H':=zA H
                clear H
                obtain ⟨Ao38,co38,eo38⟩:=Kd.R_slice HO_8.out
                subst eo38
                have p317:0 ≤ (0:Int):=(by omega)
                have q317:0 < (x8_2.length:Int):=zP (by assumption)
                (try (obtain ⟨A_,c_,e_⟩:=Kd.R_slice HO_8.out;subst e_))
                obtain ⟨ad317,e317,hx317_0⟩:=Kd.at_int (Kd.R_reads' HO_8.out).2.2 0 p317 q317
                cases e317
                have qi317:(0 < x8_2.length) = True:=eq_true (by omega)
                (try rw [show ((0:Int)).toNat = 0 from rfl] at hx317_0)
                (try rw [Addr.add_zero'] at hx317_0)
                replace p317:=eq_true p317
                replace q317:=eq_true q317
                have p318:0 ≤ (1:Int):=(by omega)
                have q318:1 < (x8_2.length:Int):=zP (by assumption)
                (try (obtain ⟨A_,c_,e_⟩:=Kd.R_slice HO_8.out;subst e_))
                obtain ⟨ad318,e318,hx318_0⟩:=Kd.at_int (Kd.R_reads' HO_8.out).2.2 1 p318 q318
                obtain rfl:ad317 = ad318:=(by injection e318)
                (try simp only [show (1:Int).toNat = 1 from rfl,Nat.reduceMul,Nat.reduceEqDiff,Go.Addr.add,↓reduceIte] at hx318_0)
                have qi318:(1 < x8_2.length) = True:=eq_true (by omega)
                (try rw [show ((1:Int)).toNat = 1 from rfl] at hx318_0)
                replace p318:=eq_true p318
                replace q318:=eq_true q318
                go_wp2
                repeat (go_quiet (fail);try go_wp2)
                go_meet
                case rel=>exact ⟨_,(wrap64 ((rd x8_2 0) * (rd x8_2 1))),(false),(by first|rfl|(simp;done)|(simp [*];done)),(by first|rfl|(simp;done)|(simp [*];done)),H',⟨by have:=HK1.out;have:=HK2.out;first|omega|exact Nat.le_refl _⟩,⟨by repeat (first|(with_reducible first|exact HB.out|apply zD|apply zC|apply zE)|exact HB.out)⟩⟩
               ·rw [if_neg c37] at H
                exact absurd H (by simp)
              ·rw [if_neg c36] at H
               exact absurd H (by simp)
             ·rw [if_neg c35] at H
              have c35b0:(((rd_T94 l0 0).f0) == 5) = false:=beq_eq_false_iff_ne.mpr c35
              have c35b1:(((rd_T94 l0 0).f0) != 5) = true:=bne_iff_ne.mpr c35
              by_cases c39:((rd_T94 l0 0).f0) = 6
              ·rw [if_pos c39] at H
               have c39b0:(((rd_T94 l0 0).f0) == 6) = true:=beq_iff_eq.mpr c39
               have c39b1:(((rd_T94 l0 0).f0) != 6) = false:=bne_eq_false_iff_eq.mpr c39
               clear c39
               by_cases c40:0 < (x8_2.length:Int)
               ·rw [if_pos c40] at H
                have c40b0:decide (0 < (x8_2.length:Int)) = true:=zQ c40
                have c40b1:decide (0 < x8_2.length) = true:=zQ (by omega)
                clear c40
                by_cases c41:1 < (x8_2.length:Int)
                ·rw [if_pos c41] at H
                 have c41b0:decide (1 < (x8_2.length:Int)) = true:=zQ c41
                 have c41b1:decide (1 < x8_2.length) = true:=zQ (by omega)
                 clear c41
                 have H':=zA H
                 clear H
                 obtain ⟨Ao42,co42,eo42⟩:=Kd.R_slice HO_8.out
                 subst eo42
                 have p319:0 ≤ (0:Int):=(by omega)
                 have q319:0 < (x8_2.length:Int):=zP (by assumption)
                 (try (obtain ⟨A_,c_,e_⟩:=Kd.R_slice HO_8.out;subst e_))
                 obtain ⟨ad319,e319,hx319_0⟩:=Kd.at_int (Kd.R_reads' HO_8.out).2.2 0 p319 q319
                 cases e319
                 have qi319:(0 < x8_2.length) = True:=eq_true (by omega)
                 (try rw [show ((0:Int)).toNat = 0 from rfl] at hx319_0)
                 (try rw [Addr.add_zero'] at hx319_0)
                 replace p319:=eq_true p319
                 replace q319:=eq_true q319
                 have p320:0 ≤ (1:Int):=(by omega)
                 have q320:1 < (x8_2.length:Int):=zP (by assumption)
                 (try (obtain ⟨A_,c_,e_⟩:=Kd.R_slice HO_8.out;subst e_))
                 obtain ⟨ad320,e320,hx320_0⟩:=Kd.at_int (Kd.R_reads' HO_8.out).2.2 1 p320 q320
                 obtain rfl:ad319 = ad320:=(by injection e320)
                 (try simp only [show (1:Int).toNat = 1 from rfl,Nat.reduceMul,Nat.reduceEqDiff,Go.Addr.add,↓reduceIte] at hx320_0)
                 have qi320:(1 < x8_2.length) = True:=eq_true (by omega)
                 (try rw [show ((1:Int)).toNat = 1 from rfl] at hx320_0)
                 replace p320:=eq_true p320
                 replace q320:=eq_true q320
                 go_wp2
                 repeat (go_quiet (fail);try go_wp2)
                 go_meet
                 case rel=>exact ⟨_,(0),(((rd x8_2 0) == (rd x8_2 1))),(by first|rfl|(simp;done)|(simp [*];done)),(by first|rfl|(simp;done)|(simp [*];done)),H',⟨by have:=HK1.out;have:=HK2.out;first|omega|exact Nat.le_refl _⟩,⟨by repeat (first|(with_reducible first|exact HB.out|apply zD|apply zC|apply zE)|exact HB.out)⟩⟩
                ·rw [if_neg c41] at H
                 exact absurd H (by simp)
               ·rw [if_neg c40] at H
                exact absurd H (by simp)
              ·rw [if_neg c39] at H
               have c39b0:(((rd_T94 l0 0).f0) == 6) = false:=beq_eq_false_iff_ne.mpr c39
               have c39b1:(((rd_T94 l0 0).f0) != 6) = true:=bne_iff_ne.mpr c39
               by_cases c43:((rd_T94 l0 0).f0) = 7
               ·rw [if_pos c43] at H
                have c43b0:(((rd_T94 l0 0).f0) == 7) = true:=beq_iff_eq.mpr c43
                have c43b1:(((rd_T94 l0 0).f0) != 7) = false:=bne_eq_false_iff_eq.mpr c43
                clear c43
                by_cases c44:0 < (x8_2.length:Int)
                ·rw [if_pos c44] at H
                 have c44b0:decide (0 < (x8_2.length:Int)) = true:=zQ c44
                 have c44b1:decide (0 < x8_2.length) = true:=zQ (by omega)
                 clear c44
                 by_cases c45:1 < (x8_2.length:Int)
                 ·rw [if_pos c45] at H
                  have c45b0:decide (1 < (x8_2.length:Int)) = true:=zQ c45
                  have c45b1:decide (1 < x8_2.length) = true:=zQ (by omega)
                  clear c45
                  have H':=zA H
                  clear H
                  obtain ⟨Ao46,co46,eo46⟩:=Kd.R_slice HO_8.out
                  subst eo46
                  have p321:0 ≤ (0:Int):=(by omega)
                  have q321:0 < (x8_2.length:Int):=zP (by assumption)
                  (try (obtain ⟨A_,c_,e_⟩:=Kd.R_slice HO_8.out;subst e_))
                  obtain ⟨ad321,e321,hx321_0⟩:=Kd.at_int (Kd.R_reads' HO_8.out).2.2 0 p321 q321
                  cases e321
                  have qi321:(0 < x8_2.length) = True:=eq_true (by omega)
                  (try rw [show ((0:Int)).toNat = 0 from rfl] at hx321_0)
                  (try rw [Addr.add_zero'] at hx321_0)
                  replace p321:=eq_true p321
                  replace q321:=eq_true q321
                  have p322:0 ≤ (1:Int):=(by omega)
                  have q322:1 < (x8_2.length:Int):=zP (by assumption)
                  (try (obtain ⟨A_,c_,e_⟩:=Kd.R_slice HO_8.out;subst e_))
                  obtain ⟨ad322,e322,hx322_0⟩:=Kd.at_int (Kd.R_reads' HO_8.out).2.2 1 p322 q322
                  obtain rfl:ad321 = ad322:=(by injection e322)
                  (try simp only [show (1:Int).toNat = 1 from rfl,Nat.reduceMul,Nat.reduceEqDiff,Go.Addr.add,↓reduceIte] at hx322_0)
                  have qi322:(1 < x8_2.length) = True:=eq_true (by omega)
                  (try rw [show ((1:Int)).toNat = 1 from rfl] at hx322_0)
                  replace p322:=eq_true p322
                  replace q322:=eq_true q322
                  go_wp2
                  repeat (go_quiet (fail);try go_wp2)
                  go_meet
                  case rel=>exact ⟨_,(0),(decide ((rd x8_2 0) < (rd x8_2 1))),(by first|rfl|(simp;done)|(simp [*];done)),(by first|rfl|(simp;done)|(simp [*];done)),H',⟨by have:=HK1.out;have:=HK2.out;first|omega|exact Nat.le_refl _⟩,⟨by repeat (first|(with_reducible first|exact HB.out|apply zD|apply zC|apply zE)|exact HB.out)⟩⟩
                 ·rw [if_neg c45] at H
                  exact absurd H (by simp)
                ·rw [if_neg c44] at H
                 exact absurd H (by simp)
               ·rw [if_neg c43] at H
                have c43b0:(((rd_T94 l0 0).f0) == 7) = false:=beq_eq_false_iff_ne.mpr c43
                have c43b1:(((rd_T94 l0 0).f0) != 7) = true:=bne_iff_ne.mpr c43
                by_cases c47:((rd_T94 l0 0).f0) = 8
                ·rw [if_pos c47] at H
                 have c47b0:(((rd_T94 l0 0).f0) == 8) = true:=beq_iff_eq.mpr c47
                 have c47b1:(((rd_T94 l0 0).f0) != 8) = false:=bne_eq_false_iff_eq.mpr c47
                 clear c47
                 by_cases c48:0 < (x8_2.length:Int)
                 ·rw [if_pos c48] at H
                  have c48b0:decide (0 < (x8_2.length:Int)) = true:=zQ c48
                  have c48b1:decide (0 < x8_2.length) = true:=zQ (by omega)
                  clear c48
                  by_cases c49:(rd x8_2 0) = 1
                  ·rw [if_pos c49] at H
                   have c49b0:((rd x8_2 0) == 1) = true:=beq_iff_eq.mpr c49
                   have c49b1:((rd x8_2 0) != 1) = false:=bne_eq_false_iff_eq.mpr c49
                   clear c49
                   by_cases c50:1 < (x8_2.length:Int)
                   ·rw [if_pos c50] at H
                    have c50b0:decide (1 < (x8_2.length:Int)) = true:=zQ c50
                    have c50b1:decide (1 < x8_2.length) = true:=zQ (by omega)
                    clear c50
                    have H':=zA H
                    clear H
                    obtain ⟨Ao51,co51,eo51⟩:=Kd.R_slice HO_8.out
                    subst eo51
                    have p323:0 ≤ (0:Int):=(by omega)
                    have q323:0 < (x8_2.length:Int):=zP (by assumption)
                    (try (obtain ⟨A_,c_,e_⟩:=Kd.R_slice HO_8.out;subst e_))
                    obtain ⟨ad323,e323,hx323_0⟩:=Kd.at_int (Kd.R_reads' HO_8.out).2.2 0 p323 q323
                    cases e323
                    have qi323:(0 < x8_2.length) = True:=eq_true (by omega)
                    (try rw [show ((0:Int)).toNat = 0 from rfl] at hx323_0)
                    (try rw [Addr.add_zero'] at hx323_0)
                    replace p323:=eq_true p323
                    replace q323:=eq_true q323
                    have p324:0 ≤ (1:Int):=(by omega)
                    have q324:1 < (x8_2.length:Int):=zP (by assumption)
                    (try (obtain ⟨A_,c_,e_⟩:=Kd.R_slice HO_8.out;subst e_))
                    obtain ⟨ad324,e324,hx324_0⟩:=Kd.at_int (Kd.R_reads' HO_8.out).2.2 1 p324 q324
                    obtain rfl:ad323 = ad324:=(by injection e324)
                    (try simp only [show (1:Int).toNat = 1 from rfl,Nat.reduceMul,Nat.reduceEqDiff,Go.Addr.add,↓reduceIte] at hx324_0)
                    have qi324:(1 < x8_2.length) = True:=eq_true (by omega)
                    (try rw [show ((1:Int)).toNat = 1 from rfl] at hx324_0)
                    replace p324:=eq_true p324
                    replace q324:=eq_true q324
                    go_wp2
                    repeat (go_quiet (fail);try go_wp2)
                    go_meet
                    case rel=>exact ⟨_,(0),(((rd x8_2 1) == 1)),(by first|rfl|(simp;done)|(simp [*];done)),(by first|rfl|(simp;done)|(simp [*];done)),H',⟨by have:=HK1.out;have:=HK2.out;first|omega|exact Nat.le_refl _⟩,⟨by repeat (first|(with_reducible first|exact HB.out|apply zD|apply zC|apply zE)|exact HB.out)⟩⟩
                   ·rw [if_neg c50] at H
                    exact absurd H (by simp)
                  ·rw [if_neg c49] at H
                   have c49b0:((rd x8_2 0) == 1) = false:=beq_eq_false_iff_ne.mpr c49
                   have c49b1:((rd x8_2 0) != 1) = true:=bne_iff_ne.mpr c49
                   have H':=zA H
                   clear H
                   obtain ⟨Ao52,co52,eo52⟩:=Kd.R_slice HO_8.out
                   subst eo52
                   have p323:0 ≤ (0:Int):=(by omega)
                   have q323:0 < (x8_2.length:Int):=zP (by assumption)
                   (try (obtain ⟨A_,c_,e_⟩:=Kd.R_slice HO_8.out;subst e_))
                   obtain ⟨ad323,e323,hx323_0⟩:=Kd.at_int (Kd.R_reads' HO_8.out).2.2 0 p323 q323
                   cases e323
                   have qi323:(0 < x8_2.length) = True:=eq_true (by omega)
                   (try rw [show ((0:Int)).toNat = 0 from rfl] at hx323_0)
                   (try rw [Addr.add_zero'] at hx323_0)
                   replace p323:=eq_true p323
                   replace q323:=eq_true q323
                   go_wp2
                   repeat (go_quiet (fail);try go_wp2)
                   go_meet
                   case rel=>exact ⟨_,(0),(false),(by first|rfl|(simp;done)|(simp [*];done)),(by first|rfl|(simp;done)|(simp [*];done)),H',⟨by have:=HK1.out;have:=HK2.out;first|omega|exact Nat.le_refl _⟩,⟨by repeat (first|(with_reducible first|exact HB.out|apply zD|apply zC|apply zE)|exact HB.out)⟩⟩
                 ·rw [if_neg c48] at H
                  exact absurd H (by simp)
                ·rw [if_neg c47] at H
                 have c47b0:(((rd_T94 l0 0).f0) == 8) = false:=beq_eq_false_iff_ne.mpr c47
                 have c47b1:(((rd_T94 l0 0).f0) != 8) = true:=bne_iff_ne.mpr c47
                 by_cases c53:((rd_T94 l0 0).f0) = 9
                 ·rw [if_pos c53] at H
                  have c53b0:(((rd_T94 l0 0).f0) == 9) = true:=beq_iff_eq.mpr c53
                  have c53b1:(((rd_T94 l0 0).f0) != 9) = false:=bne_eq_false_iff_eq.mpr c53
                  clear c53
                  by_cases c54:0 < (x8_2.length:Int)
                  ·rw [if_pos c54] at H
                   have c54b0:decide (0 < (x8_2.length:Int)) = true:=zQ c54
                   have c54b1:decide (0 < x8_2.length) = true:=zQ (by omega)
                   clear c54
                   by_cases c55:(rd x8_2 0) = 1
                   ·rw [if_pos c55] at H
                    have c55b0:((rd x8_2 0) == 1) = true:=beq_iff_eq.mpr c55
                    have c55b1:((rd x8_2 0) != 1) = false:=bne_eq_false_iff_eq.mpr c55
                    clear c55
                    have H':=zA H
                    clear H
                    obtain ⟨Ao56,co56,eo56⟩:=Kd.R_slice HO_8.out
                    subst eo56
                    have p325:0 ≤ (0:Int):=(by omega)
                    have q325:0 < (x8_2.length:Int):=zP (by assumption)
                    (try (obtain ⟨A_,c_,e_⟩:=Kd.R_slice HO_8.out;subst e_))
                    obtain ⟨ad325,e325,hx325_0⟩:=Kd.at_int (Kd.R_reads' HO_8.out).2.2 0 p325 q325
                    cases e325
                    have qi325:(0 < x8_2.length) = True:=eq_true (by omega)
                    (try rw [show ((0:Int)).toNat = 0 from rfl] at hx325_0)
                    (try rw [Addr.add_zero'] at hx325_0)
                    replace p325:=eq_true p325
                    replace q325:=eq_true q325
                    go_wp2
                    repeat (go_quiet (fail);try go_wp2)
                    go_meet
                    case rel=>exact ⟨_,(0),(true),(by first|rfl|(simp;done)|(simp [*];done)),(by first|rfl|(simp;done)|(simp [*];done)),H',⟨by have:=HK1.out;have:=HK2.out;first|omega|exact Nat.le_refl _⟩,⟨by repeat (first|(with_reducible first|exact HB.out|apply zD|apply zC|apply zE)|exact HB.out)⟩⟩
                   ·rw [if_neg c55] at H
                    have c55b0:((rd x8_2 0) == 1) = false:=beq_eq_false_iff_ne.mpr c55
                    have c55b1:((rd x8_2 0) != 1) = true:=bne_iff_ne.mpr c55
                    by_cases c57:1 < (x8_2.length:Int)
                    ·rw [if_pos c57] at H
                     have c57b0:decide (1 < (x8_2.length:Int)) = true:=zQ c57
                     have c57b1:decide (1 < x8_2.length) = true:=zQ (by omega)
                     clear c57
                     have H':=zA H
                     clear H
                     obtain ⟨Ao58,co58,eo58⟩:=Kd.R_slice HO_8.out
                     subst eo58
                     have p325:0 ≤ (0:Int):=(by omega)
                     have q325:0 < (x8_2.length:Int):=zP (by assumption)
                     (try (obtain ⟨A_,c_,e_⟩:=Kd.R_slice HO_8.out;subst e_))
                     obtain ⟨ad325,e325,hx325_0⟩:=Kd.at_int (Kd.R_reads' HO_8.out).2.2 0 p325 q325
                     cases e325
                     have qi325:(0 < x8_2.length) = True:=eq_true (by omega)
                     (try rw [show ((0:Int)).toNat = 0 from rfl] at hx325_0)
                     (try rw [Addr.add_zero'] at hx325_0)
                     replace p325:=eq_true p325
                     replace q325:=eq_true q325
                     have p326:0 ≤ (1:Int):=(by omega)
                     have q326:1 < (x8_2.length:Int):=zP (by assumption)
                     (try (obtain ⟨A_,c_,e_⟩:=Kd.R_slice HO_8.out;subst e_))
                     obtain ⟨ad326,e326,hx326_0⟩:=Kd.at_int (Kd.R_reads' HO_8.out).2.2 1 p326 q326
                     obtain rfl:ad325 = ad326:=(by injection e326)
                     (try simp only [show (1:Int).toNat = 1 from rfl,Nat.reduceMul,Nat.reduceEqDiff,Go.Addr.add,↓reduceIte] at hx326_0)
                     have qi326:(1 < x8_2.length) = True:=eq_true (by omega)
                     (try rw [show ((1:Int)).toNat = 1 from rfl] at hx326_0)
                     replace p326:=eq_true p326
                     replace q326:=eq_true q326
                     go_wp2
                     repeat (go_quiet (fail);try go_wp2)
                     go_meet
                     case rel=>exact ⟨_,(0),(((rd x8_2 1) == 1)),(by first|rfl|(simp;done)|(simp [*];done)),(by first|rfl|(simp;done)|(simp [*];done)),H',⟨by have:=HK1.out;have:=HK2.out;first|omega|exact Nat.le_refl _⟩,⟨by repeat (first|(with_reducible first|exact HB.out|apply zD|apply zC|apply zE)|exact HB.out)⟩⟩
                    ·rw [if_neg c57] at H
                     exact absurd H (by simp)
                  ·rw [if_neg c54] at H
                   exact absurd H (by simp)
                 ·rw [if_neg c53] at H
                  have c53b0:(((rd_T94 l0 0).f0) == 9) = false:=beq_eq_false_iff_ne.mpr c53
                  have c53b1:(((rd_T94 l0 0).f0) != 9) = true:=bne_iff_ne.mpr c53
                  by_cases c59:((rd_T94 l0 0).f0) = 10
                  ·rw [if_pos c59] at H
                   have c59b0:(((rd_T94 l0 0).f0) == 10) = true:=beq_iff_eq.mpr c59
                   have c59b1:(((rd_T94 l0 0).f0) != 10) = false:=bne_eq_false_iff_eq.mpr c59
                   clear c59
                   by_cases c60:0 < (x8_2.length:Int)
                   ·rw [if_pos c60] at H
                    have c60b0:decide (0 < (x8_2.length:Int)) = true:=zQ c60
                    have c60b1:decide (0 < x8_2.length) = true:=zQ (by omega)
                    clear c60
                    have H':=zA H
                    clear H
                    obtain ⟨Ao61,co61,eo61⟩:=Kd.R_slice HO_8.out
                    subst eo61
                    have p327:0 ≤ (0:Int):=(by omega)
                    have q327:0 < (x8_2.length:Int):=zP (by assumption)
                    (try (obtain ⟨A_,c_,e_⟩:=Kd.R_slice HO_8.out;subst e_))
                    obtain ⟨ad327,e327,hx327_0⟩:=Kd.at_int (Kd.R_reads' HO_8.out).2.2 0 p327 q327
                    cases e327
                    have qi327:(0 < x8_2.length) = True:=eq_true (by omega)
                    (try rw [show ((0:Int)).toNat = 0 from rfl] at hx327_0)
                    (try rw [Addr.add_zero'] at hx327_0)
                    replace p327:=eq_true p327
                    replace q327:=eq_true q327
                    go_wp2
                    repeat (go_quiet (fail);try go_wp2)
                    go_meet
                    case rel=>exact ⟨_,(0),(((rd x8_2 0) == 0)),(by first|rfl|(simp;done)|(simp [*];done)),(by first|rfl|(simp;done)|(simp [*];done)),H',⟨by have:=HK1.out;have:=HK2.out;first|omega|exact Nat.le_refl _⟩,⟨by repeat (first|(with_reducible first|exact HB.out|apply zD|apply zC|apply zE)|exact HB.out)⟩⟩
                   ·rw [if_neg c60] at H
                    exact absurd H (by simp)
                  ·rw [if_neg c59] at H
                   have c59b0:(((rd_T94 l0 0).f0) == 10) = false:=beq_eq_false_iff_ne.mpr c59
                   have c59b1:(((rd_T94 l0 0).f0) != 10) = true:=bne_iff_ne.mpr c59
                   by_cases c62:((rd_T94 l0 0).f0) = 11
                   ·rw [if_pos c62] at H
                    have c62b0:(((rd_T94 l0 0).f0) == 11) = true:=beq_iff_eq.mpr c62
                    have c62b1:(((rd_T94 l0 0).f0) != 11) = false:=bne_eq_false_iff_eq.mpr c62
                    clear c62
                    have H':=zA H
                    clear H
                    go_wp2
                    repeat (go_quiet (fail);try go_wp2)
                    go_meet
                    case rel=>exact ⟨_,(0),(true),(by first|rfl|(simp;done)|(simp [*];done)),(by first|rfl|(simp;done)|(simp [*];done)),H',⟨by have:=HK1.out;have:=HK2.out;first|omega|exact Nat.le_refl _⟩,⟨by repeat (first|(with_reducible first|exact HB.out|apply zD|apply zC|apply zE)|exact HB.out)⟩⟩
                   ·rw [if_neg c62] at H
                    have c62b0:(((rd_T94 l0 0).f0) == 11) = false:=beq_eq_false_iff_ne.mpr c62
                    have c62b1:(((rd_T94 l0 0).f0) != 11) = true:=bne_iff_ne.mpr c62
                    have H':=zA H
                    clear H
                    go_wp2
                    repeat (go_quiet (fail);try go_wp2)
                    go_meet
                    case rel=>exact ⟨_,(0),(false),(by first|rfl|(simp;done)|(simp [*];done)),(by first|rfl|(simp;done)|(simp [*];done)),H',⟨by have:=HK1.out;have:=HK2.out;first|omega|exact Nat.le_refl _⟩,⟨by repeat (first|(with_reducible first|exact HB.out|apply zD|apply zC|apply zE)|exact HB.out)⟩⟩
        case rest =>
         clear HC22
         try clear c1
         try clear p1
         try clear q1
         try clear hx1
         try clear c2
         try clear p2
         try clear c3
         try clear p3
         try clear q3
         try clear hx3
         try clear qi3
         try clear c4
         try clear c5
         try clear c6
         try clear p6
         try clear c10
         try clear c10b0
         try clear c11
         try clear c12
         try clear c14
         try clear c14b0
         try clear c14b1
         try clear c15
         try clear p16
         try clear q16
         try clear hx16
         try clear hf16
         try clear c21
         try clear c21b0
         try clear c21b1
         try clear c23
         try clear c23b0
         try clear c23b1
         try clear c24
         try clear c24b0
         try clear c24b1
         try clear c25
         try clear c25b0
         try clear c26
         try clear c26b0
         try clear c27
         try clear c27b0
         try clear c27b1
         try clear c28
         try clear c28b0
         try clear c28b1
         try clear c29
         try clear c29b0
         try clear c29b1
         try clear c30
         try clear p30
         try clear q30
         try clear hx30
         try clear qi30
         try clear c31
         try clear c31b0
         try clear c31b1
         try clear p31
         try clear q31
         try clear hx31
         try clear qi31
         try clear c32
         try clear c32b0
         try clear c32b1
         try clear p32
         try clear q32
         try clear hx32
         try clear qi32
         try clear c33
         try clear c33b0
         try clear c33b1
         try clear c35
         try clear c35b0
         try clear c35b1
         try clear c36
         try clear c36b0
         try clear c36b1
         try clear c37
         try clear c37b0
         try clear c37b1
         try clear c39
         try clear c39b0
         try clear c39b1
         try clear c40
         try clear c40b0
         try clear c40b1
         try clear c41
         try clear c41b0
         try clear c41b1
         try clear c43
         try clear c43b0
         try clear c43b1
         try clear c44
         try clear c44b0
         try clear c44b1
         try clear c45
         try clear c45b0
         try clear c45b1
         try clear c47
         try clear c47b0
         try clear c47b1
         try clear c48
         try clear c48b0
         try clear c48b1
         try clear c49
         try clear c49b0
         try clear c49b1
         try clear c50
         try clear c50b0
         try clear c50b1
         try clear c53
         try clear c53b0
         try clear c53b1
         try clear c54
         try clear c54b0
         try clear c54b1
         try clear c55
         try clear c55b0
         try clear c55b1
         try clear c57
         try clear c57b0
         try clear c57b1
         try clear c59
         try clear c59b0
         try clear c59b1
         try clear c60
         try clear c60b0
         try clear c60b1
         try clear c62
         try clear c62b0
         try clear c62b1
         try clear hx16_0
         try clear hx305_0
         try clear hx309_0
         try clear hx309_1
         try clear hx310_0
         try clear hx310_1
         try clear hx311_0
         try clear hx311_1
         try clear hx312_0
         try clear hx313_0
         try clear hx314_0
         try clear hx315_0
         try clear hx316_0
         try clear hx317_0
         try clear hx318_0
         try clear hx319_0
         try clear hx320_0
         try clear hx321_0
         try clear hx322_0
         try clear hx323_0
         try clear hx324_0
         try clear hx325_0
         try clear hx326_0
         try clear hx327_0
         try clear p16
         try clear p305
         try clear p309
         try clear p310
         try clear p311
         try clear p312
         try clear p313
         try clear p314
         try clear p315
         try clear p316
         try clear p317
         try clear p318
         try clear p319
         try clear p320
         try clear p321
         try clear p322
         try clear p323
         try clear p324
         try clear p325
         try clear p326
         try clear p327
         try clear q16
         try clear q305
         try clear q309
         try clear q310
         try clear q311
         try clear q312
         try clear q313
         try clear q314
         try clear q315
         try clear q316
         try clear q317
         try clear q318
         try clear q319
         try clear q320
         try clear q321
         try clear q322
         try clear q323
         try clear q324
         try clear q325
         try clear q326
         try clear q327
         obtain ⟨kq,x13_21,x14_21,rfl,rfl,HA,HJ21,HB⟩:=hcut
         cases kq with
         | zero=>exact absurd HA.out (by simp [foretellref_worked.j2])
         | succ kj21 =>
          have H:=HA.out
          clear HA
          simp only [foretellref_worked.j2] at H
          by_cases c63:x14_21 = true
          ·subst c63
           have H1:((foretellref_In.f 1 (-1000000) 1000000).bind fun t328=>(if t328 = true then (some (1,0)) else (some (0,8)))) = some (r1,r2):=by rw [if_pos rfl] at H;exact H
           clear H
           have H:=H1
           clear H1
           replace H:=zb.mp H
           obtain ⟨t328,A640,H⟩:=H
           replace H:(if t328 = true then (some (1,0)) else (some (0,8))) = some (r1,r2):=H
           have A64:=zA A640
           clear A640
           by_cases c65:t328 = true
           ·subst c65
            have H1:(some (1,0)) = some (r1,r2):=by rw [if_pos rfl] at H;exact H
            clear H
            have H:=H1
            clear H1
            simp only [Option.some.injEq,Prod.mk.injEq] at H
            obtain ⟨rfl,rfl⟩:=H
            go_wp2_with (first|(go_at_call 56;(with_reducible refine (foretellref_In.calls 1 (-1000000) 1000000 true _ A64.out).mono ?_);rintro e w' ⟨rfl,⟨nd,rfl⟩⟩;(try first|exact ⟨rfl,_,World.drewN_drewN _ _ _⟩|exact ⟨rfl,_,Eq.trans (World.drewN_drewN _ _ _) (congrArg (World.drewN _) (Nat.add_assoc _ _ _))⟩)))
            repeat (go_quiet (first|(go_at_call 56;(with_reducible refine (foretellref_In.calls 1 (-1000000) 1000000 true _ A64.out).mono ?_);rintro e w' ⟨rfl,⟨nd,rfl⟩⟩;(try first|exact ⟨rfl,_,World.drewN_drewN _ _ _⟩|exact ⟨rfl,_,Eq.trans (World.drewN_drewN _ _ _) (congrArg (World.drewN _) (Nat.add_assoc _ _ _))⟩)));try go_wp2_with (first|(go_at_call 56;(with_reducible refine (foretellref_In.calls 1 (-1000000) 1000000 true _ A64.out).mono ?_);rintro e w' ⟨rfl,⟨nd,rfl⟩⟩;(try first|exact ⟨rfl,_,World.drewN_drewN _ _ _⟩|exact ⟨rfl,_,Eq.trans (World.drewN_drewN _ _ _) (congrArg (World.drewN _) (Nat.add_assoc _ _ _))⟩))))
            go_ret2
            exact ⟨by first|rfl|(simp [errW_none,errW_some] <;> rfl)|(simp [*,errW_none,errW_some] <;> rfl),by repeat (first|(with_reducible first|exact HB.out|apply zD|apply zC|apply zE)|exact HB.out)⟩
           ·replace c65:=Bool.eq_false_iff.mpr c65
            subst c65
            have H1:(some (0,8)) = some (r1,r2):=by rw [if_neg (show ¬ (false = true) by decide)] at H;exact H
            clear H
            have H:=H1
            clear H1
            simp only [Option.some.injEq,Prod.mk.injEq] at H
            obtain ⟨rfl,rfl⟩:=H
            go_wp2_with (first|(go_at_call 56;(with_reducible refine (foretellref_In.calls 1 (-1000000) 1000000 false _ A64.out).mono ?_);rintro e w' ⟨rfl,⟨nd,rfl⟩⟩;(try first|exact ⟨rfl,_,World.drewN_drewN _ _ _⟩|exact ⟨rfl,_,Eq.trans (World.drewN_drewN _ _ _) (congrArg (World.drewN _) (Nat.add_assoc _ _ _))⟩)))
            repeat (go_quiet (first|(go_at_call 56;(with_reducible refine (foretellref_In.calls 1 (-1000000) 1000000 false _ A64.out).mono ?_);rintro e w' ⟨rfl,⟨nd,rfl⟩⟩;(try first|exact ⟨rfl,_,World.drewN_drewN _ _ _⟩|exact ⟨rfl,_,Eq.trans (World.drewN_drewN _ _ _) (congrArg (World.drewN _) (Nat.add_assoc _ _ _))⟩)));try go_wp2_with (first|(go_at_call 56;(with_reducible refine (foretellref_In.calls 1 (-1000000) 1000000 false _ A64.out).mono ?_);rintro e w' ⟨rfl,⟨nd,rfl⟩⟩;(try first|exact ⟨rfl,_,World.drewN_drewN _ _ _⟩|exact ⟨rfl,_,Eq.trans (World.drewN_drewN _ _ _) (congrArg (World.drewN _) (Nat.add_assoc _ _ _))⟩))))
            go_ret2
            exact ⟨by first|rfl|(simp [errW_none,errW_some] <;> rfl)|(simp [*,errW_none,errW_some] <;> rfl),by repeat (first|(with_reducible first|exact HB.out|apply zD|apply zC|apply zE)|exact HB.out)⟩
          ·replace c63:=Bool.eq_false_iff.mpr c63
           subst c63
           have H1:((foretellref_In.f x13_21 (-1000000) 1000000).bind fun t329=>(if t329 = true then (some (x13_21,0)) else (some (0,8)))) = some (r1,r2):=by rw [if_neg (show ¬ (false = true) by decide)] at H;exact H
           clear H
           have H:=H1
           clear H1
           replace H:=zb.mp H
           obtain ⟨t329,A660,H⟩:=H
           replace H:(if t329 = true then (some (x13_21,0)) else (some (0,8))) = some (r1,r2):=H
           have A66:=zA A660
           clear A660
           by_cases c67:t329 = true
           ·subst c67
            have H1:(some (x13_21,0)) = some (r1,r2):=by rw [if_pos rfl] at H;exact H
            clear H
            have H:=H1
            clear H1
            simp only [Option.some.injEq,Prod.mk.injEq] at H
            obtain ⟨rfl,rfl⟩:=H
            go_wp2_with (first|(go_at_call 56;(with_reducible refine (foretellref_In.calls x13_21 (-1000000) 1000000 true _ A66.out).mono ?_);rintro e w' ⟨rfl,⟨nd,rfl⟩⟩;(try first|exact ⟨rfl,_,World.drewN_drewN _ _ _⟩|exact ⟨rfl,_,Eq.trans (World.drewN_drewN _ _ _) (congrArg (World.drewN _) (Nat.add_assoc _ _ _))⟩)))
            repeat (go_quiet (first|(go_at_call 56;(with_reducible refine (foretellref_In.calls x13_21 (-1000000) 1000000 true _ A66.out).mono ?_);rintro e w' ⟨rfl,⟨nd,rfl⟩⟩;(try first|exact ⟨rfl,_,World.drewN_drewN _ _ _⟩|exact ⟨rfl,_,Eq.trans (World.drewN_drewN _ _ _) (congrArg (World.drewN _) (Nat.add_assoc _ _ _))⟩)));try go_wp2_with (first|(go_at_call 56;(with_reducible refine (foretellref_In.calls x13_21 (-1000000) 1000000 true _ A66.out).mono ?_);rintro e w' ⟨rfl,⟨nd,rfl⟩⟩;(try first|exact ⟨rfl,_,World.drewN_drewN _ _ _⟩|exact ⟨rfl,_,Eq.trans (World.drewN_drewN _ _ _) (congrArg (World.drewN _) (Nat.add_assoc _ _ _))⟩))))
            go_ret2
            exact ⟨by first|rfl|(simp [errW_none,errW_some] <;> rfl)|(simp [*,errW_none,errW_some] <;> rfl),by repeat (first|(with_reducible first|exact HB.out|apply zD|apply zC|apply zE)|exact HB.out)⟩
           ·replace c67:=Bool.eq_false_iff.mpr c67
            subst c67
            have H1:(some (0,8)) = some (r1,r2):=by rw [if_neg (show ¬ (false = true) by decide)] at H;exact H
            clear H
            have H:=H1
            clear H1
            simp only [Option.some.injEq,Prod.mk.injEq] at H
            obtain ⟨rfl,rfl⟩:=H
            go_wp2_with (first|(go_at_call 56;(with_reducible refine (foretellref_In.calls x13_21 (-1000000) 1000000 false _ A66.out).mono ?_);rintro e w' ⟨rfl,⟨nd,rfl⟩⟩;(try first|exact ⟨rfl,_,World.drewN_drewN _ _ _⟩|exact ⟨rfl,_,Eq.trans (World.drewN_drewN _ _ _) (congrArg (World.drewN _) (Nat.add_assoc _ _ _))⟩)))
            repeat (go_quiet (first|(go_at_call 56;(with_reducible refine (foretellref_In.calls x13_21 (-1000000) 1000000 false _ A66.out).mono ?_);rintro e w' ⟨rfl,⟨nd,rfl⟩⟩;(try first|exact ⟨rfl,_,World.drewN_drewN _ _ _⟩|exact ⟨rfl,_,Eq.trans (World.drewN_drewN _ _ _) (congrArg (World.drewN _) (Nat.add_assoc _ _ _))⟩)));try go_wp2_with (first|(go_at_call 56;(with_reducible refine (foretellref_In.calls x13_21 (-1000000) 1000000 false _ A66.out).mono ?_);rintro e w' ⟨rfl,⟨nd,rfl⟩⟩;(try first|exact ⟨rfl,_,World.drewN_drewN _ _ _⟩|exact ⟨rfl,_,Eq.trans (World.drewN_drewN _ _ _) (congrArg (World.drewN _) (Nat.add_assoc _ _ _))⟩))))
            go_ret2
            exact ⟨by first|rfl|(simp [errW_none,errW_some] <;> rfl)|(simp [*,errW_none,errW_some] <;> rfl),by repeat (first|(with_reducible first|exact HB.out|apply zD|apply zC|apply zE)|exact HB.out)⟩
       ·rw [if_neg c21] at H
        exact absurd H (by simp)
def foretellref_Evaluated.l0:Nat → List (S94) → List Int → Int → Option (Int × Int)
 | 0,_,_,_=>none
 | k + 1,x0,x1,x8=>if x8 < (x1.length:Int) then (if 0 ≤ x8 then ((foretellref_In.f (rd x1 x8) (-1000000) 1000000).bind fun t333=>(if t333 = true then (foretellref_Evaluated.l0 k x0 x1 (wrap64 (x8 + 1))) else (some (0,2)))) else (none)) else ((foretellref_worked.f k x0 x1).bind fun bt334=>(some (bt334.1,bt334.2)))
def foretellref_Evaluated.f (k:Nat) (l0:List (S94)) (l1:List Int):Option (Int × Int):=(foretellref_ExprChecked.f k l0 (l1.length:Int)).bind fun bt330=>(if bt330.2 = 0 then (foretellref_Evaluated.l0 k l0 l1 0) else (some (0,bt330.2)))
theorem foretellref_Evaluated.mono_l:∀ k,(∀ y0 y1 y2,LeO (foretellref_Evaluated.l0 k y0 y1 y2) (foretellref_Evaluated.l0 (k + 1) y0 y1 y2))
 | 0=>fun _ _ _ r h=>by simp [foretellref_Evaluated.l0] at h
 | k + 1=>by
  have ih0:=foretellref_Evaluated.mono_l k
  ·intro y0 y1 y2
   unfold foretellref_Evaluated.l0
   repeat' first
   | (with_reducible exact ih0 _ _ _)
   | (with_reducible exact foretellref_ExprChecked.mono _ _ _)
   | (with_reducible exact foretellref_worked.mono _ _ _)
   | (with_reducible exact LeO.refl _)
   | (with_reducible exact LeO.none _)
   | (with_reducible refine LeO.ite ?_ ?_)
   | (with_reducible refine LeO.bind ?_ (fun _=>?_))
   | exact ih0 _ _ _
   | exact foretellref_ExprChecked.mono _ _ _
   | exact foretellref_worked.mono _ _ _
   | exact LeO.none _
   | refine LeO.ite ?_ ?_
   | refine LeO.bind ?_ (fun _=>?_)
theorem foretellref_Evaluated.mono:∀ a0 a1 k,LeO (foretellref_Evaluated.f k a0 a1) (foretellref_Evaluated.f (k + 1) a0 a1):=by
 intro a0 a1 k
 have ih0:=foretellref_Evaluated.mono_l k
 unfold foretellref_Evaluated.f
 repeat' first
   | (with_reducible exact ih0 _ _ _)
   | (with_reducible exact foretellref_ExprChecked.mono _ _ _)
   | (with_reducible exact foretellref_worked.mono _ _ _)
   | (with_reducible exact LeO.refl _)
   | (with_reducible exact LeO.none _)
   | (with_reducible refine LeO.ite ?_ ?_)
   | (with_reducible refine LeO.bind ?_ (fun _=>?_))
   | exact ih0 _ _ _
   | exact foretellref_ExprChecked.mono _ _ _
   | exact foretellref_worked.mono _ _ _
   | exact LeO.none _
   | refine LeO.ite ?_ ?_
   | refine LeO.bind ?_ (fun _=>?_)
set_option maxHeartbeats 8000000 in
set_option maxRecDepth 100000 in
theorem foretellref_Evaluated.calls (k:Nat) (A0:Option Addr) (c0:Nat) (l0:List (S94)) (A1:Option Addr) (c1:Nat) (l1:List Int) (r1:Int) (r2:Int) (w:World) (hr0:Kd.C k94 w A0 l0.length l0) (hc0:l0.length ≤ c0) (hr1:Kd.C (Kd.int .i64) w A1 l1.length l1) (hc1:l1.length ≤ c1) (h:foretellref_Evaluated.f k l0 l1 = some (r1,r2)) :
  Calls Tryd.prog 61 #[.slice A0 l0.length c0,.slice A1 l1.length c1] w fun e w'=>e = .returned (.tuple #[.int .i64 r1,.int .i64 r2])∧Below w.heap.size w w':=by
 have HR0:=zA hr0
 have HC0:=zA hc0
 clear hr0 hc0
 have HR1:=zA hr1
 have HC1:=zA hc1
 clear hr1 hc1
 have HB:=zA (Below.refl w.heap.size w)
 have H:((foretellref_ExprChecked.f k l0 (l1.length:Int)).bind fun bt330=>(if bt330.2 = 0 then (foretellref_Evaluated.l0 k l0 l1 0) else (some (0,bt330.2)))) = some (r1,r2):=h
 clear h
 replace H:=zb.mp H
 obtain ⟨⟨t330,t331⟩,A30,H⟩:=H
 replace H:(if t331 = 0 then (foretellref_Evaluated.l0 k l0 l1 0) else (some (0,t331))) = some (r1,r2):=H
 have A3:=zA A30
 clear A30
 by_cases c4:t331 = 0
 ·rw [if_pos c4] at H
  have c4b0:(t331 == 0) = true:=beq_iff_eq.mpr c4
  have c4b1:(t331 != 0) = false:=bne_eq_false_iff_eq.mpr c4
  clear c4
  have H':=zA H
  clear H
  go_enter Tryd.func61,Tryd.ntmps61
  go_wp2_with (first|((with_reducible refine zU (f:=70) rfl ?_);refine goesL_ (some 15) rfl rfl Tryd.func70 (by kernel_rfl) rfl #[.slice A0 l0.length c0,.int .i64 (l1.length:Int)] rfl (by (try simp only [zx,zy,zz]);first|done|rfl|(simp only [zd,zt];rfl)) ?_;(with_reducible refine (foretellref_ExprChecked.calls k _ _ l0 (l1.length:Int) t330 t331 _ ?side1 ?side2 A3.out).mono ?_);(case side1=>repeat (first|exact HR0.out|(with_reducible refine Kd.C_alloc ?_ _)|(with_reducible refine Kd.C_drewN ?_ _)|(with_reducible refine Kd.C_drew ?_)));(case side2=>exact HC0.out);rintro e w5 ⟨rfl,hb⟩;refine ⟨_,rfl,?_⟩;have n0_:=zA (zH (by repeat (first|(with_reducible first|exact HB.out|apply zD|apply zC|apply zE)|exact HB.out)) hb);clear HB;have HB:=n0_;clear n0_;(try clear hb);(try clear hb2);(try clear hk);(try clear hi)))
  go_loopg [8] k (fun kq v8 w'=>∃ (x8_1:Int),v8 = .int .i64 x8_1∧Aside0 (foretellref_Evaluated.l0 kq l0 l1 x8_1 = some (r1,r2))∧Aside0 (kq ≤ k)∧Aside0 (Below w.heap.size w w'))
  case atStart=>exact ⟨(0),(by first|rfl|(simp;done)|(simp [*];done)),H',⟨Nat.le_refl _⟩,⟨by repeat (first|(with_reducible first|exact HB.out|apply zD|apply zC|apply zE)|exact HB.out)⟩⟩
  case round =>
   clear H'
   try clear c1
   try clear p2
   try clear c4
   try clear c4b0
   try clear c4b1
   obtain ⟨x8_1,rfl,HA,HK1,HB⟩:=hrel
   cases gk with
   | zero=>exact absurd HA.out (by simp [foretellref_Evaluated.l0])
   | succ k1 =>
    have H:=HA.out
    clear HA
    simp only [foretellref_Evaluated.l0] at H
    by_cases c6:x8_1 < (l1.length:Int)
    ·rw [if_pos c6] at H
     have c6b0:decide (x8_1 < (l1.length:Int)) = true:=zQ c6
     clear c6
     by_cases c7:0 ≤ x8_1
     ·rw [if_pos c7] at H
      have c7b0:decide (0 ≤ x8_1) = true:=zQ c7
      clear c7
      replace H:=zb.mp H
      obtain ⟨t333,A80,H⟩:=H
      replace H:(if t333 = true then (foretellref_Evaluated.l0 k1 l0 l1 (wrap64 (x8_1 + 1))) else (some (0,2))) = some (r1,r2):=H
      have A8:=zA A80
      clear A80
      by_cases c9:t333 = true
      ·subst c9
       have H1:(foretellref_Evaluated.l0 k1 l0 l1 (wrap64 (x8_1 + 1))) = some (r1,r2):=by rw [if_pos rfl] at H;exact H
       clear H
       have H:=H1
       clear H1
       have H':=zA H
       clear H
       have p332:0 ≤ (x8_1:Int):=zP (by assumption)
       have q332:x8_1 < (l1.length:Int):=zP (by assumption)
       obtain ⟨ad332,e332,hx332_0⟩:=Kd.at_int HR1.out x8_1 p332 q332
       cases e332
       replace hx332_0:=(HB.out.cell (zB w _ hx332_0)).trans hx332_0
       replace p332:=eq_true p332
       replace q332:=eq_true q332
       go_wp2_with (first|((with_reducible refine zU (f:=56) rfl ?_);refine goesL_ (some 31) rfl rfl Tryd.func56 (by kernel_rfl) rfl #[.int .i64 (rd l1 x8_1),.int .i64 (-1000000),.int .i64 1000000] rfl (by (try simp only [zx,zy,zz]);first|done|rfl|(simp only [zd,zt];rfl)) ?_;(with_reducible refine (foretellref_In.calls (rd l1 x8_1) (-1000000) 1000000 true _ A8.out).mono ?_);rintro e w' ⟨rfl,⟨nd,rfl⟩⟩;refine ⟨_,rfl,?_⟩))
       go_roundg k1
       case measure=>have:=HK1.out;omega
       case rel=>exact ⟨(wrap64 (x8_1 + 1)),(by first|rfl|(simp;done)|(simp [*];done)),H',⟨by have:=HK1.out;omega⟩,⟨by repeat (first|(with_reducible first|exact HB.out|apply zD|apply zC|apply zE)|exact HB.out)⟩⟩
      ·replace c9:=Bool.eq_false_iff.mpr c9
       subst c9
       have H1:(some (0,2)) = some (r1,r2):=by rw [if_neg (show ¬ (false = true) by decide)] at H;exact H
       clear H
       have H:=H1
       clear H1
       simp only [Option.some.injEq,Prod.mk.injEq] at H
       obtain ⟨rfl,rfl⟩:=H
       have p332:0 ≤ (x8_1:Int):=zP (by assumption)
       have q332:x8_1 < (l1.length:Int):=zP (by assumption)
       obtain ⟨ad332,e332,hx332_0⟩:=Kd.at_int HR1.out x8_1 p332 q332
       cases e332
       replace hx332_0:=(HB.out.cell (zB w _ hx332_0)).trans hx332_0
       replace p332:=eq_true p332
       replace q332:=eq_true q332
       go_wp2_with (first|((with_reducible refine zU (f:=56) rfl ?_);refine goesL_ (some 31) rfl rfl Tryd.func56 (by kernel_rfl) rfl #[.int .i64 (rd l1 x8_1),.int .i64 (-1000000),.int .i64 1000000] rfl (by (try simp only [zx,zy,zz]);first|done|rfl|(simp only [zd,zt];rfl)) ?_;(with_reducible refine (foretellref_In.calls (rd l1 x8_1) (-1000000) 1000000 false _ A8.out).mono ?_);rintro e w' ⟨rfl,⟨nd,rfl⟩⟩;refine ⟨_,rfl,?_⟩))
       go_ret2
       exact ⟨by first|rfl|(simp [errW_none,errW_some] <;> rfl)|(simp [*,errW_none,errW_some] <;> rfl),by repeat (first|(with_reducible first|exact HB.out|apply zD|apply zC|apply zE)|exact HB.out)⟩
     ·rw [if_neg c7] at H
      exact absurd H (by simp)
    ·rw [if_neg c6] at H
     have c6b0:decide (x8_1 < (l1.length:Int)) = false:=zR c6
     clear c6
     replace H:=zb.mp H
     obtain ⟨⟨t334,t335⟩,A100,H⟩:=H
     replace H:(some (t334,t335)) = some (r1,r2):=H
     have A10:=zA A100
     clear A100
     simp only [Option.some.injEq,Prod.mk.injEq] at H
     obtain ⟨rfl,rfl⟩:=H
     go_wp2_with (first|((with_reducible refine zU (f:=79) rfl ?_);refine goesL_ (some 36) rfl rfl Tryd.func79 (by kernel_rfl) rfl #[.slice A0 l0.length c0,.slice A1 l1.length c1] rfl (by (try simp only [zx,zy,zz]);first|done|rfl|(simp only [zd,zt];rfl)) ?_;(with_reducible refine (foretellref_worked.calls k1 _ _ l0 _ _ l1 t334 t335 _ ?side1 ?side2 ?side3 ?side4 A10.out).mono ?_);(case side1=>repeat (first|exact (zT HR0.out HB.out)|(with_reducible refine Kd.C_alloc ?_ _)|(with_reducible refine Kd.C_drewN ?_ _)|(with_reducible refine Kd.C_drew ?_)));(case side2=>exact HC0.out);(case side3=>repeat (first|exact (zT HR1.out HB.out)|(with_reducible refine Kd.C_alloc ?_ _)|(with_reducible refine Kd.C_drewN ?_ _)|(with_reducible refine Kd.C_drew ?_)));(case side4=>exact HC1.out);rintro e w11 ⟨rfl,hb⟩;refine ⟨_,rfl,?_⟩;have n0_:=zA (zH (by repeat (first|(with_reducible first|exact HB.out|apply zD|apply zC|apply zE)|exact HB.out)) hb);clear HB;have HB:=n0_;clear n0_;(try clear hb);(try clear hb2);(try clear hk);(try clear hi)))
     go_ret2
     exact ⟨by first|rfl|(simp [errW_none,errW_some] <;> rfl)|(simp [*,errW_none,errW_some] <;> rfl),by repeat (first|(with_reducible first|exact HB.out|apply zD|apply zC|apply zE)|exact HB.out)⟩
 ·rw [if_neg c4] at H
  have c4b0:(t331 == 0) = false:=beq_eq_false_iff_ne.mpr c4
  have c4b1:(t331 != 0) = true:=bne_iff_ne.mpr c4
  simp only [Option.some.injEq,Prod.mk.injEq] at H
  obtain ⟨rfl,rfl⟩:=H
  go_enter Tryd.func61,Tryd.ntmps61
  go_wp2_with (first|((with_reducible refine zU (f:=70) rfl ?_);refine goesL_ (some 15) rfl rfl Tryd.func70 (by kernel_rfl) rfl #[.slice A0 l0.length c0,.int .i64 (l1.length:Int)] rfl (by (try simp only [zx,zy,zz]);first|done|rfl|(simp only [zd,zt];rfl)) ?_;(with_reducible refine (foretellref_ExprChecked.calls k _ _ l0 (l1.length:Int) t330 t331 _ ?side1 ?side2 A3.out).mono ?_);(case side1=>repeat (first|exact HR0.out|(with_reducible refine Kd.C_alloc ?_ _)|(with_reducible refine Kd.C_drewN ?_ _)|(with_reducible refine Kd.C_drew ?_)));(case side2=>exact HC0.out);rintro e w12 ⟨rfl,hb⟩;refine ⟨_,rfl,?_⟩;have n0_:=zA (zH (by repeat (first|(with_reducible first|exact HB.out|apply zD|apply zC|apply zE)|exact HB.out)) hb);clear HB;have HB:=n0_;clear n0_;(try clear hb);(try clear hb2);(try clear hk);(try clear hi)))
  go_ret2
  exact ⟨by first|rfl|(simp [errW_none,errW_some] <;> rfl)|(simp [*,errW_none,errW_some] <;> rfl),by repeat (first|(with_reducible first|exact HB.out|apply zD|apply zC|apply zE)|exact HB.out)⟩
end Go.Proofs.YtkpddelnkjjflaaDoor.M
