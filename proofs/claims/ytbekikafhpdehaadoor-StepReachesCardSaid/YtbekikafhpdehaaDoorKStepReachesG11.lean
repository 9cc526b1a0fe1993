import Derived.Test.YtbekikafhpdehaaDoorKStepReachesG8
namespace Go.Proofs.YtbekikafhpdehaaDoor.T
open Go.Proofs.YtbekikafhpdehaaDoor.Al
open Go.Proofs.YtbekikafhpdehaaDoorW.PrintWords
open Go.Proofs.YtbekikafhpdehaaDoor.Sq
open Go.RowKit Go.Proofs.YtbekikafhpdehaaDoorW.PrintWords Go.Proofs.YtbekikafhpdehaaDoorW.PrintLast Go.Proofs.YtbekikafhpdehaaDoorW.PrintMore
attribute [local go_sem] max2_int min2_int max_two min_two max_three min_three max_four min_four
set_option linter.unusedVariables false
set_option linter.unusedSimpArgs false
def foretelllaw_sameInts.l0:Nat → List Int → List Int → Int → Option (Bool)
 | 0,_,_,_=>none
 | k + 1,x0,x1,x5=>if x5 < (x0.length:Int) then (if 0 ≤ x5 then (if x5 < (x1.length:Int) then (if (rd x0 x5) = (rd x1 x5) then (foretelllaw_sameInts.l0 k x0 x1 (wrap64 (x5 + 1))) else (some false)) else (none)) else (none)) else (some true)
def foretelllaw_sameInts.f (k:Nat) (l0:List Int) (l1:List Int):Option (Bool):=if (l0.length:Int) = (l1.length:Int) then (foretelllaw_sameInts.l0 k l0 l1 0) else (some false)
theorem foretelllaw_sameInts.mono_l:∀ k,(∀ y0 y1 y2,LeO (foretelllaw_sameInts.l0 k y0 y1 y2) (foretelllaw_sameInts.l0 (k + 1) y0 y1 y2))
 | 0=>fun _ _ _ r h=>by simp [foretelllaw_sameInts.l0] at h
 | k + 1=>by
  have ih0:=foretelllaw_sameInts.mono_l k
  ·intro y0 y1 y2
   unfold foretelllaw_sameInts.l0
   exact qL
theorem foretelllaw_sameInts.mono:∀ a0 a1 k,LeO (foretelllaw_sameInts.f k a0 a1) (foretelllaw_sameInts.f (k + 1) a0 a1):=by
 intro a0 a1 k;have ih0:=foretelllaw_sameInts.mono_l k;unfold foretelllaw_sameInts.f;exact qL
set_option maxHeartbeats 8000000 in
set_option maxRecDepth 100000 in
theorem foretelllaw_sameInts.calls (k:Nat) (A0:Option Addr) (c0:Nat) (l0:List Int) (A1:Option Addr) (c1:Nat) (l1:List Int) (r:Bool) (w:World) (hr0:Kd.C (Kd.int .i64) w A0 l0.length l0) (hc0:l0.length ≤ c0) (hr1:Kd.C (Kd.int .i64) w A1 l1.length l1) (hc1:l1.length ≤ c1) (h:foretelllaw_sameInts.f k l0 l1 = some r) :
  Calls Tryd.prog 13 #[.slice A0 l0.length c0,.slice A1 l1.length c1] w fun e w'=>e = .returned (.bool r)∧Drawn0 w w':=by
 have HR0:=zA hr0;have HC0:=zA hc0;clear hr0 hc0;have HR1:=zA hr1;have HC1:=zA hc1;clear hr1 hc1;have H:(if (l0.length:Int) = (l1.length:Int) then (foretelllaw_sameInts.l0 k l0 l1 0) else (some false)) = some r:=h;clear h;by_cases c3:(l0.length:Int) = (l1.length:Int)
 ·rw [if_pos c3] at H;have c3b0:((l0.length:Int) == (l1.length:Int)) = true:=beq_iff_eq.mpr c3;have c3b1:((l0.length:Int) != (l1.length:Int)) = false:=bne_eq_false_iff_eq.mpr c3;have c3b2:(l0.length == l1.length) = true:=by first|simpa using c3|(simp at c3 ⊢;omega)
  clear c3;have H':=zA H;clear H;go_enter Tryd.func13,Tryd.ntmps13;go_wp2;(repeat (go_quiet (fail);try go_wp2));go_loopg [5] k (fun kq v5 w'=>∃ (x5_1:Int),v5 = .int .i64 x5_1∧Aside0 (foretelllaw_sameInts.l0 kq l0 l1 x5_1 = some r)∧Aside0 (kq ≤ k)∧Drawn0 w w')
  case atStart=>exact ⟨(0),qr,H',⟨Nat.le_refl _⟩,qt⟩
  case round =>
   clear H';obtain ⟨x5_1,rfl,HA,HK1,⟨m1,rfl⟩⟩:=hrel;cases gk with
   | zero=>exact absurd HA.out (by simp [foretelllaw_sameInts.l0])
   | succ k1 =>
    have H:=HA.out;clear HA;simp only [foretelllaw_sameInts.l0] at H;rcases qj H with ⟨c4b0,H⟩|⟨c4b0,H⟩
    ·rcases qj H with ⟨c5b0,H⟩|⟨c5,H⟩
     ·rcases qj H with ⟨c6b0,H⟩|⟨c6,H⟩
      ·by_cases c7:(rd l0 x5_1) = (rd l1 x5_1)
       ·rw [if_pos c7] at H;have c7b0:((rd l0 x5_1) == (rd l1 x5_1)) = true:=beq_iff_eq.mpr c7;have c7b1:((rd l0 x5_1) != (rd l1 x5_1)) = false:=bne_eq_false_iff_eq.mpr c7;clear c7;have H':=zA H;clear H;have p520:0 ≤ (x5_1:Int):=qd;have q520:x5_1 < (l0.length:Int):=qd;obtain ⟨ad520,e520,hx520_0⟩:=Kd.at_int HR0.out x5_1 p520 q520;cases e520;replace p520:=eq_true p520;replace q520:=eq_true q520;have p521:0 ≤ (x5_1:Int):=qd;have q521:x5_1 < (l1.length:Int):=qd;obtain ⟨ad521,e521,hx521_0⟩:=Kd.at_int HR1.out x5_1 p521 q521;cases e521;replace p521:=eq_true p521;replace q521:=eq_true q521;go_wp2;(repeat (go_quiet (fail);try go_wp2));go_roundg k1
        case measure=>have:=HK1.out;omega
        case rel=>exact ⟨(wrap64 (x5_1 + 1)),qr,H',⟨qo HK1⟩,qt⟩
       ·rw [if_neg c7] at H;have c7b0:((rd l0 x5_1) == (rd l1 x5_1)) = false:=beq_eq_false_iff_ne.mpr c7;have c7b1:((rd l0 x5_1) != (rd l1 x5_1)) = true:=bne_iff_ne.mpr c7;obtain rfl:=Option.some.inj H;have p520:0 ≤ (x5_1:Int):=qd;have q520:x5_1 < (l0.length:Int):=qd;obtain ⟨ad520,e520,hx520_0⟩:=Kd.at_int HR0.out x5_1 p520 q520;cases e520;replace p520:=eq_true p520;replace q520:=eq_true q520;have p521:0 ≤ (x5_1:Int):=qd;have q521:x5_1 < (l1.length:Int):=qd;obtain ⟨ad521,e521,hx521_0⟩:=Kd.at_int HR1.out x5_1 p521 q521;cases e521;replace p521:=eq_true p521;replace q521:=eq_true q521;go_wp2;(repeat (go_quiet (fail);try go_wp2));go_ret;exact ⟨qr,qt⟩
      ·exact absurd H (by simp)
     ·exact absurd H (by simp)
    ·obtain rfl:=Option.some.inj H;go_wp2;(repeat (go_quiet (fail);try go_wp2));go_ret;exact ⟨qr,qt⟩
 ·rw [if_neg c3] at H;have c3b0:((l0.length:Int) == (l1.length:Int)) = false:=beq_eq_false_iff_ne.mpr c3;have c3b1:((l0.length:Int) != (l1.length:Int)) = true:=bne_iff_ne.mpr c3;have c3b2:(l0.length == l1.length) = false:=by first|simpa using c3|(simp at c3 ⊢;omega)
  obtain rfl:=Option.some.inj H;go_enter Tryd.func13,Tryd.ntmps13;go_wp2;(repeat (go_quiet (fail);try go_wp2));go_ret;exact ⟨qr,qt⟩
section
open Go.Proofs.YtbekikafhpdehaaDoor.Hand
def nameAt (l:List UInt8) (i:Nat):Bool:=if ((l.getD i 0).toNat < 97 ∨ 122 < (l.getD i 0).toNat)∧((l.getD i 0).toNat < 48 ∨ 57 < (l.getD i 0).toNat ∨ i = 0) then false else true
def nameB (s:ByteArray):Bool:=if s.size = 0 ∨ 8 < s.size ∨ s.toList = [121,101,115] ∨ s.toList = [110,111] then false else (List.range s.size).all (nameAt s.data.toList)
def model_name.f (a0:ByteArray):Option Bool:=some (nameB a0)
theorem bytesWorld_below (w:World) (e:TypeId) (s:ByteArray):Below w.heap.size w (Lib.bytesWorld w e s) :=
 ⟨rfl,rfl,rfl,by rw [Lib.bytesWorld_size];omega,fun k hk=>Lib.bytesWorld_at_old w e s k hk⟩
set_option maxHeartbeats 1000000 in
set_option maxRecDepth 100000 in
theorem model_name.calls (a0:ByteArray) (r:Bool) (w:World) (h:model_name.f a0 = some r) :
  Calls Tryd.prog 82 #[.string a0] w fun e w'=>e = .returned (.bool r)∧Below w.heap.size w w':=by
 have h:=Option.some.inj h;unfold nameB at h;have hsz:a0.toList.length = a0.size:=by rw [ByteArray.toList_eq];simp
 by_cases g1:a0.size = 0
 ·have q1:a0.toList.isEmpty = true:=by rw [List.isEmpty_iff_length_eq_zero,hsz];exact g1
  rw [if_pos (.inl g1)] at h;subst h;clear hsz g1;go_enter Tryd.func82,Tryd.ntmps82;go_wp2;go_ret;exact ⟨rfl,Below.refl _ _⟩
 have q1:a0.toList.isEmpty = false:=by rw [Bool.eq_false_iff];intro hc;rw [List.isEmpty_iff_length_eq_zero,hsz] at hc;exact g1 hc
 clear hsz;by_cases g2:8 < a0.size
 ·have q2:decide ((a0.size:Int) > 8) = true:=zQ (by omega);rw [if_pos (.inr (.inl g2))] at h;subst h;clear g1;go_enter Tryd.func82,Tryd.ntmps82;go_wp2;go_ret;exact ⟨rfl,Below.refl _ _⟩
 have q2:decide ((a0.size:Int) > 8) = false:=zR (by omega);by_cases g3:a0.toList = [121,101,115]
 ·have q3:(a0.toList == ([121,101,115]:List UInt8)) = true:=beq_iff_eq.mpr g3;rw [if_pos (.inr (.inr (.inl g3)))] at h;subst h;clear g1 g3;go_enter Tryd.func82,Tryd.ntmps82;go_wp2;go_ret;exact ⟨rfl,Below.refl _ _⟩
 have q3:(a0.toList == ([121,101,115]:List UInt8)) = false:=beq_eq_false_iff_ne.mpr g3;by_cases g4:a0.toList = [110,111]
 ·have q4:(a0.toList == ([110,111]:List UInt8)) = true:=beq_iff_eq.mpr g4;rw [if_pos (.inr (.inr (.inr g4)))] at h;subst h;clear g1 g3 g4;go_enter Tryd.func82,Tryd.ntmps82;go_wp2;go_ret;exact ⟨rfl,Below.refl _ _⟩
 have q4:(a0.toList == ([110,111]:List UInt8)) = false:=beq_eq_false_iff_ne.mpr g4;rw [if_neg (by rintro (h|h|h|h);exact g1 h;exact g2 h;exact g3 h;exact g4 h)] at h;have hcv:=Lib.run_convert_string_bytes (P:=Tryd.prog) w 9 127 5 a0 (u:=.string) Tryd.underlying9 Tryd.underlying127 Tryd.underlying5;have HB:=zA (bytesWorld_below w 5 a0);have HC:=zA (fun j (hj:j < a0.size)=>Lib.bytesWorld_cell w 5 a0 j hj);obtain ⟨wb,hwb⟩:∃ wb,wb = Lib.bytesWorld w 5 a0:=⟨_,rfl⟩;rw [← hwb] at hcv HB HC;obtain ⟨gb,hgb⟩:∃ gb,gb = w.heap.size:=⟨_,rfl⟩;rw [← hgb] at hcv HC;obtain ⟨cp,hcp⟩:∃ cp,cp = grownCap w a0.size 0 5:=⟨_,rfl⟩;rw [← hcp] at hcv;have HN:=zA g2;have HH:=zA h;clear g1 g2 g3 g4 hwb hgb hcp h;go_enter Tryd.func82,Tryd.ntmps82;go_wp2;clear q1 q2 q3 q4;go_loop [23] (fun t23=>∃ j:Nat,t23 = .int .i64 (j:Int)∧Aside0 (j ≤ a0.size∧∀ i,i < j → nameAt a0.data.toList i = true)) (fun t23=>a0.size - (intOf t23).toNat)
 case atStart=>exact ⟨0,rfl,⟨Nat.zero_le _,fun i hi=>absurd hi (Nat.not_lt_zero _)⟩⟩
 case round =>
  obtain ⟨j,rfl,HJ⟩:=hrel;by_cases hlt:j < a0.size
  ·have hq:decide ((j:Int) < (a0.size:Int)) = true:=zQ (by omega);have hq2:(0 ≤ (j:Int)) = True:=eq_true (by omega);have y:=HC.out j hlt;have hcdef:∃ c:Nat,c = (a0.data.toList.getD j 0).toNat:=⟨_,rfl⟩;obtain ⟨c,hcd⟩:=hcdef;have e1:IntKind.i64.wrap ((j:Int) + 1) = (j:Int) + 1:=by rw [IntKind.wrap_i64];have:=HN.out;omega
   have bad:((c < 97 ∨ 122 < c)∧(c < 48 ∨ 57 < c ∨ j = 0)) → r = false:=fun hb=>by
    have hr:=HH.out;rw [← hr,Bool.eq_false_iff];intro hall;have:=List.all_eq_true.1 hall j (List.mem_range.2 hlt);unfold nameAt at this;rw [← hcd,if_pos hb] at this;cases this
   have good:¬ ((c < 97 ∨ 122 < c)∧(c < 48 ∨ 57 < c ∨ j = 0)) → ∀ i,i < j + 1 → nameAt a0.data.toList i = true:=fun hb i hi=>by
    rcases Nat.lt_or_eq_of_le (Nat.le_of_lt_succ hi) with h|h
    ·exact HJ.out.2 i h
    ·subst h;unfold nameAt;rw [← hcd,if_neg hb]
   rw [← hcd] at y;clear hcd;by_cases p1:c < 97
   ·have u1:decide ((c:Int) < 97) = true:=zQ (by omega);by_cases p3:c < 48
    ·have u3:decide ((c:Int) < 48) = true:=zQ (by omega);have hr:=bad ⟨.inl p1,.inl p3⟩;subst hr;clear bad good;go_wp2;go_ret;exact ⟨rfl,HB.out⟩
    have u3:decide ((c:Int) < 48) = false:=zR (by omega);by_cases p4:57 < c
    ·have u4:decide ((c:Int) > 57) = true:=zQ (by omega);have hr:=bad ⟨.inl p1,.inr (.inl p4)⟩;subst hr;clear bad good;go_wp2;go_ret;exact ⟨rfl,HB.out⟩
    have u4:decide ((c:Int) > 57) = false:=zR (by omega);by_cases p5:j = 0
    ·have hr:=bad ⟨.inl p1,.inr (.inr p5)⟩;subst hr;clear bad good;subst p5;go_wp2;go_ret;exact ⟨rfl,HB.out⟩
    have u5:((j:Int) == 0) = false:=by rw [beq_eq_false_iff_ne];omega
    have hg:=zA (good (by omega));clear bad good;go_wp2;go_round
    case rel=>exact ⟨j + 1,by go_num,⟨by omega,hg.out⟩⟩
    case measure=>simp [intOf];omega
   have u1:decide ((c:Int) < 97) = false:=zR (by omega);by_cases p2:122 < c
   ·have u2:decide ((c:Int) > 122) = true:=zQ (by omega);have u3:decide ((c:Int) < 48) = false:=zR (by omega);have u4:decide ((c:Int) > 57) = true:=zQ (by omega);have hr:=bad ⟨.inr p2,.inr (.inl (by omega))⟩;subst hr;clear bad good;go_wp2;go_ret;exact ⟨rfl,HB.out⟩
   have u2:decide ((c:Int) > 122) = false:=zR (by omega);have hg:=zA (good (by omega));clear bad good;go_wp2;go_round
   case rel=>exact ⟨j + 1,by go_num,⟨by omega,hg.out⟩⟩
   case measure=>simp [intOf];omega
  ·have hq:decide ((j:Int) < (a0.size:Int)) = false:=zR (by omega);have hr:=HH.out;rw [List.all_eq_true.2 (fun i hi=>HJ.out.2 i (by have:=List.mem_range.1 hi;have:=HJ.out.1;omega))] at hr;subst hr;go_wp2;go_ret;exact ⟨rfl,HB.out⟩
end
section
open Go.Proofs.YtbekikafhpdehaaDoor.Hand
def polish_Parts.f (a0:Int):Option (Int × Int):=if a0 < 1 ∨ 18 < a0 then some (0,13) else some (polishTab.getD a0.toNat 0,0)
theorem polish_Parts.calls (a0:Int) (r1:Int) (r2:Int) (w:World) (hL:LaidG w) (h:polish_Parts.f a0 = some (r1,r2)) :
  Calls Tryd.prog 99 #[.int .i64 a0] w fun e w'=>e = .returned (.tuple #[.int .i64 r1,.int .i64 r2])∧Drawn0 w w':=by
 unfold polish_Parts.f at h;by_cases h1:a0 < 1
 ·rw [if_pos (.inl h1)] at h;simp only [Option.some.injEq,Prod.mk.injEq] at h;obtain ⟨rfl,rfl⟩:=h;clear hL;go_enter Tryd.func99,Tryd.ntmps99;go_wp2;go_ret2;exact ⟨rfl,Drawn0.refl _⟩
 by_cases h2:18 < a0
 ·rw [if_pos (.inr h2)] at h;simp only [Option.some.injEq,Prod.mk.injEq] at h;obtain ⟨rfl,rfl⟩:=h;clear hL;go_enter Tryd.func99,Tryd.ntmps99;go_wp2;go_ret2;exact ⟨rfl,Drawn0.refl _⟩
 rw [if_neg (by omega)] at h;simp only [Option.some.injEq,Prod.mk.injEq] at h;obtain ⟨hr,rfl⟩:=h;have hc:=hL a0.toNat (by omega);rw [hr] at hc;clear hL hr;go_enter Tryd.func99,Tryd.ntmps99;go_wp2;go_ret2;exact ⟨rfl,Drawn0.refl _⟩
end
end Go.Proofs.YtbekikafhpdehaaDoor.T
