import Derived.Test.YtbekikafhpdehaaDoorKVerdictRunsG9
namespace Go.Proofs.YtbekikafhpdehaaDoor.V
open Go.Proofs.YtbekikafhpdehaaDoor.Al
open Go.Proofs.YtbekikafhpdehaaDoorW.PrintWords
open Go.Proofs.YtbekikafhpdehaaDoor.Sq
open Go.RowKit Go.Proofs.YtbekikafhpdehaaDoorW.PrintWords Go.Proofs.YtbekikafhpdehaaDoorW.PrintLast Go.Proofs.YtbekikafhpdehaaDoorW.PrintMore
attribute [local go_sem] max2_int min2_int max_two min_two max_three min_three max_four min_four
set_option linter.unusedVariables false
set_option linter.unusedSimpArgs false
section
open Go.Proofs.YtbekikafhpdehaaDoor.Hand
def nameAt (l:List UInt8) (i:Nat):Bool:=if ((l.getD i 0).toNat < 97 ∨ 122 < (l.getD i 0).toNat)∧((l.getD i 0).toNat < 48 ∨ 57 < (l.getD i 0).toNat ∨ i = 0) then false else true
def nameB (s:ByteArray):Bool:=if s.size = 0 ∨ 8 < s.size ∨ s.toList = [121,101,115] ∨ s.toList = [110,111] then false else (List.range s.size).all (nameAt s.data.toList)
def model_name.f (a0:ByteArray):Option Bool:=some (nameB a0)
theorem bytesWorld_below (w:World) (e:TypeId) (s:ByteArray):Below w.heap.size w (Lib.bytesWorld w e s) :=
 ⟨rfl,rfl,rfl,by rw [Lib.bytesWorld_size];omega,fun k hk=>Lib.bytesWorld_at_old w e s k hk⟩
set_option maxHeartbeats 1000000 in
set_option maxRecDepth 100000 in
theorem model_name.calls (a0:ByteArray) (r:Bool) (w:World) (h:model_name.f a0 = some r) :
  Calls Tryd.prog 82 #[.string a0] w fun e w'=>e = .returned (.bool r)∧Below w.heap.size w w':=by
 have h:=Option.some.inj h;unfold nameB at h;have hsz:a0.toList.length = a0.size:=by rw [ByteArray.toList_eq];simp
 by_cases g1:a0.size = 0
 ·have q1:a0.toList.isEmpty = true:=by rw [List.isEmpty_iff_length_eq_zero,hsz];exact g1
  rw [if_pos (.inl g1)] at h;subst h;clear hsz g1;go_enter Tryd.func82,Tryd.ntmps82;go_wp2;go_ret;exact ⟨rfl,Below.refl _ _⟩
 have q1:a0.toList.isEmpty = false:=by rw [Bool.eq_false_iff];intro hc;rw [List.isEmpty_iff_length_eq_zero,hsz] at hc;exact g1 hc
 clear hsz;by_cases g2:8 < a0.size
 ·have q2:decide ((a0.size:Int) > 8) = true:=zQ (by omega);rw [if_pos (.inr (.inl g2))] at h;subst h;clear g1;go_enter Tryd.func82,Tryd.ntmps82;go_wp2;go_ret;exact ⟨rfl,Below.refl _ _⟩
 have q2:decide ((a0.size:Int) > 8) = false:=zR (by omega);by_cases g3:a0.toList = [121,101,115]
 ·have q3:(a0.toList == ([121,101,115]:List UInt8)) = true:=beq_iff_eq.mpr g3;rw [if_pos (.inr (.inr (.inl g3)))] at h;subst h;clear g1 g3;go_enter Tryd.func82,Tryd.ntmps82;go_wp2;go_ret;exact ⟨rfl,Below.refl _ _⟩
 have q3:(a0.toList == ([121,101,115]:List UInt8)) = false:=beq_eq_false_iff_ne.mpr g3;by_cases g4:a0.toList = [110,111]
 ·have q4:(a0.toList == ([110,111]:List UInt8)) = true:=beq_iff_eq.mpr g4;rw [if_pos (.inr (.inr (.inr g4)))] at h;subst h;clear g1 g3 g4;go_enter Tryd.func82,Tryd.ntmps82;go_wp2;go_ret;exact ⟨rfl,Below.refl _ _⟩
 have q4:(a0.toList == ([110,111]:List UInt8)) = false:=beq_eq_false_iff_ne.mpr g4;rw [if_neg (by rintro (h|h|h|h);exact g1 h;exact g2 h;exact g3 h;exact g4 h)] at h;have hcv:=Lib.run_convert_string_bytes (P:=Tryd.prog) w 9 127 5 a0 (u:=.string) Tryd.underlying9 Tryd.underlying127 Tryd.underlying5;have HB:=zA (bytesWorld_below w 5 a0);have HC:=zA (fun j (hj:j < a0.size)=>Lib.bytesWorld_cell w 5 a0 j hj);obtain ⟨wb,hwb⟩:∃ wb,wb = Lib.bytesWorld w 5 a0:=⟨_,rfl⟩;rw [← hwb] at hcv HB HC;obtain ⟨gb,hgb⟩:∃ gb,gb = w.heap.size:=⟨_,rfl⟩;rw [← hgb] at hcv HC;obtain ⟨cp,hcp⟩:∃ cp,cp = grownCap w a0.size 0 5:=⟨_,rfl⟩;rw [← hcp] at hcv;have HN:=zA g2;have HH:=zA h;clear g1 g2 g3 g4 hwb hgb hcp h;go_enter Tryd.func82,Tryd.ntmps82;go_wp2;clear q1 q2 q3 q4;go_loop [23] (fun t23=>∃ j:Nat,t23 = .int .i64 (j:Int)∧Aside0 (j ≤ a0.size∧∀ i,i < j → nameAt a0.data.toList i = true)) (fun t23=>a0.size - (intOf t23).toNat)
 case atStart=>exact ⟨0,rfl,⟨Nat.zero_le _,fun i hi=>absurd hi (Nat.not_lt_zero _)⟩⟩
 case round =>
  obtain ⟨j,rfl,HJ⟩:=hrel;by_cases hlt:j < a0.size
  ·have hq:decide ((j:Int) < (a0.size:Int)) = true:=zQ (by omega);have hq2:(0 ≤ (j:Int)) = True:=eq_true (by omega);have y:=HC.out j hlt;have hcdef:∃ c:Nat,c = (a0.data.toList.getD j 0).toNat:=⟨_,rfl⟩;obtain ⟨c,hcd⟩:=hcdef;have e1:IntKind.i64.wrap ((j:Int) + 1) = (j:Int) + 1:=by rw [IntKind.wrap_i64];have:=HN.out;omega
   have bad:((c < 97 ∨ 122 < c)∧(c < 48 ∨ 57 < c ∨ j = 0)) → r = false:=fun hb=>by
    have hr:=HH.out;rw [← hr,Bool.eq_false_iff];intro hall;have:=List.all_eq_true.1 hall j (List.mem_range.2 hlt);unfold nameAt at this;rw [← hcd,if_pos hb] at this;cases this
   have good:¬ ((c < 97 ∨ 122 < c)∧(c < 48 ∨ 57 < c ∨ j = 0)) → ∀ i,i < j + 1 → nameAt a0.data.toList i = true:=fun hb i hi=>by
    rcases Nat.lt_or_eq_of_le (Nat.le_of_lt_succ hi) with h|h
    ·exact HJ.out.2 i h
    ·subst h;unfold nameAt;rw [← hcd,if_neg hb]
   rw [← hcd] at y;clear hcd;by_cases p1:c < 97
   ·have u1:decide ((c:Int) < 97) = true:=zQ (by omega);by_cases p3:c < 48
    ·have u3:decide ((c:Int) < 48) = true:=zQ (by omega);have hr:=bad ⟨.inl p1,.inl p3⟩;subst hr;clear bad good;go_wp2;go_ret;exact ⟨rfl,HB.out⟩
    have u3:decide ((c:Int) < 48) = false:=zR (by omega);by_cases p4:57 < c
    ·have u4:decide ((c:Int) > 57) = true:=zQ (by omega);have hr:=bad ⟨.inl p1,.inr (.inl p4)⟩;subst hr;clear bad good;go_wp2;go_ret;exact ⟨rfl,HB.out⟩
    have u4:decide ((c:Int) > 57) = false:=zR (by omega);by_cases p5:j = 0
    ·have hr:=bad ⟨.inl p1,.inr (.inr p5)⟩;subst hr;clear bad good;subst p5;go_wp2;go_ret;exact ⟨rfl,HB.out⟩
    have u5:((j:Int) == 0) = false:=by rw [beq_eq_false_iff_ne];omega
    have hg:=zA (good (by omega));clear bad good;go_wp2;go_round
    case rel=>exact ⟨j + 1,by go_num,⟨by omega,hg.out⟩⟩
    case measure=>simp [intOf];omega
   have u1:decide ((c:Int) < 97) = false:=zR (by omega);by_cases p2:122 < c
   ·have u2:decide ((c:Int) > 122) = true:=zQ (by omega);have u3:decide ((c:Int) < 48) = false:=zR (by omega);have u4:decide ((c:Int) > 57) = true:=zQ (by omega);have hr:=bad ⟨.inr p2,.inr (.inl (by omega))⟩;subst hr;clear bad good;go_wp2;go_ret;exact ⟨rfl,HB.out⟩
   have u2:decide ((c:Int) > 122) = false:=zR (by omega);have hg:=zA (good (by omega));clear bad good;go_wp2;go_round
   case rel=>exact ⟨j + 1,by go_num,⟨by omega,hg.out⟩⟩
   case measure=>simp [intOf];omega
  ·have hq:decide ((j:Int) < (a0.size:Int)) = false:=zR (by omega);have hr:=HH.out;rw [List.all_eq_true.2 (fun i hi=>HJ.out.2 i (by have:=List.mem_range.1 hi;have:=HJ.out.1;omega))] at hr;subst hr;go_wp2;go_ret;exact ⟨rfl,HB.out⟩
end
section
open Go.Proofs.YtbekikafhpdehaaDoor.Hand
def polish_Parts.f (a0:Int):Option (Int × Int):=if a0 < 1 ∨ 18 < a0 then some (0,13) else some (polishTab.getD a0.toNat 0,0)
theorem polish_Parts.calls (a0:Int) (r1:Int) (r2:Int) (w:World) (hL:LaidG w) (h:polish_Parts.f a0 = some (r1,r2)) :
  Calls Tryd.prog 99 #[.int .i64 a0] w fun e w'=>e = .returned (.tuple #[.int .i64 r1,.int .i64 r2])∧Drawn0 w w':=by
 unfold polish_Parts.f at h;by_cases h1:a0 < 1
 ·rw [if_pos (.inl h1)] at h;simp only [Option.some.injEq,Prod.mk.injEq] at h;obtain ⟨rfl,rfl⟩:=h;clear hL;go_enter Tryd.func99,Tryd.ntmps99;go_wp2;go_ret2;exact ⟨rfl,Drawn0.refl _⟩
 by_cases h2:18 < a0
 ·rw [if_pos (.inr h2)] at h;simp only [Option.some.injEq,Prod.mk.injEq] at h;obtain ⟨rfl,rfl⟩:=h;clear hL;go_enter Tryd.func99,Tryd.ntmps99;go_wp2;go_ret2;exact ⟨rfl,Drawn0.refl _⟩
 rw [if_neg (by omega)] at h;simp only [Option.some.injEq,Prod.mk.injEq] at h;obtain ⟨hr,rfl⟩:=h;have hc:=hL a0.toNat (by omega);rw [hr] at hc;clear hL hr;go_enter Tryd.func99,Tryd.ntmps99;go_wp2;go_ret2;exact ⟨rfl,Drawn0.refl _⟩
end
end Go.Proofs.YtbekikafhpdehaaDoor.V
