import Derived.Test.YtgdijfhdpgdanaaGreatDoorKProductBehindsG12
namespace Go.Proofs.YtgdijfhdpgdanaaGreatDoor.B
open Go.Proofs.YtgdijfhdpgdanaaGreatDoor.Al
open Option renaming bind_eq_some_iff → zb
open Go.Proofs.YtgdijfhdpgdanaaGreatDoorW.PrintWords renaming below_step → zH, gate_callee → zU
open Go.Proofs.YtgdijfhdpgdanaaGreatDoor.Sq Go.RowKit Go.Proofs.YtgdijfhdpgdanaaGreatDoorW.PrintWords Go.Proofs.YtgdijfhdpgdanaaGreatDoorW.PrintLast Go.Proofs.YtgdijfhdpgdanaaGreatDoorW.PrintMore
attribute [local go_sem] max2_int min2_int max_two min_two max_three min_three max_four min_four
set_option linter.unusedVariables false
set_option linter.unusedSimpArgs false
def zBC.f (k:Nat) (l0:List (S96)) (a1:Int) (a2:Bool):Option (Int):=(zAj.f k l0 a1).bind fun bt127=>(if bt127.2 = 0 then (if (bt127.1 != a2) = true then (some 5) else (some bt127.2)) else (some bt127.2))
theorem zBC.mono:∀ a0 a1 a2 k,LeO (zBC.f k a0 a1 a2) (zBC.f (k + 1) a0 a1 a2):=by
 intro a0 a1 a2 k;unfold zBC.f;exact qM @zAj.mono
set_option maxHeartbeats 8000000 in
set_option maxRecDepth 100000 in
theorem zBC.calls (k:Nat) (A0:Option Addr) (c0:Nat) (l0:List (S96)) (a1:Int) (a2:Bool) (r:Int) (w:World) (hr0:Kd.C k96 w A0 l0.length l0) (hc0:l0.length ≤ c0) (hL:LaidG w) (h:zBC.f k l0 a1 a2 = some r) :
  Calls Tryz.prog 78 #[.slice A0 l0.length c0,.int .i64 a1,.bool a2] w fun e w'=>e = .returned (.int .i64 r)∧Below w.heap.size w w':=by
 have HLd:=zA hL;clear hL;have HR0:=zA hr0;have HC0:=zA hc0;clear hr0 hc0;have HB:=zA (Below.refl w.heap.size w);have H:((zAj.f k l0 a1).bind fun bt127=>(if bt127.2 = 0 then (if (bt127.1 != a2) = true then (some 5) else (some bt127.2)) else (some bt127.2))) = some r:=h;clear h;replace H:=zb.mp H;obtain ⟨⟨t127,t128⟩,A40,H⟩:=H;(try dsimp only at H);have A4:=zA A40;clear A40;rcases qE H with ⟨c5b0,c5b1,H⟩|⟨c5,c5b0,c5b1,H⟩
 ·by_cases c6:(t127 != a2) = true
  ·rw [if_pos c6] at H;have c6b0:(t127 != a2) = true:=c6;(try (have c6b1:decide (t127 = a2) = false:=by simpa using c6));(try (have c6b2:(t127 == a2) = false:=by simpa using c6));(try (have c6b3:¬ (t127 = a2):=by simpa using c6));clear c6;obtain rfl:=Option.some.inj H;go_enter Tryz.func78,Tryz.ntmps78;go_wp2_with (first|((with_reducible refine zU (f:=80) rfl ?_);refine gL (some 12) Tryz.func80 #[.slice A0 l0.length c0,.int .i64 a1] ?_;(with_reducible refine (zAj.calls k _ _ l0 a1 t127 t128 _ (qu HR0.out) HC0.out qD A4.out).mono ?_);rintro e w7 ⟨rfl,hb⟩;refine ⟨_,rfl,?_⟩;replace HB:=zA (zH qb hb);clear hb));go_ret;exact ⟨qe,qb⟩
  ·rw [if_neg c6] at H;have c6b0:(t127 != a2) = false:=by simpa using c6
   (try (have c6b1:decide (t127 = a2) = true:=by simpa using c6));(try (have c6b2:(t127 == a2) = true:=by simpa using c6));clear c6;obtain rfl:=Option.some.inj H;go_enter Tryz.func78,Tryz.ntmps78;go_wp2_with (first|((with_reducible refine zU (f:=80) rfl ?_);refine gL (some 12) Tryz.func80 #[.slice A0 l0.length c0,.int .i64 a1] ?_;(with_reducible refine (zAj.calls k _ _ l0 a1 t127 t128 _ (qu HR0.out) HC0.out qD A4.out).mono ?_);rintro e w8 ⟨rfl,hb⟩;refine ⟨_,rfl,?_⟩;replace HB:=zA (zH qb hb);clear hb));go_ret;exact ⟨qe,qb⟩
 ·obtain rfl:=Option.some.inj H;go_enter Tryz.func78,Tryz.ntmps78;go_wp2_with (first|((with_reducible refine zU (f:=80) rfl ?_);refine gL (some 12) Tryz.func80 #[.slice A0 l0.length c0,.int .i64 a1] ?_;(with_reducible refine (zAj.calls k _ _ l0 a1 t127 t128 _ (qu HR0.out) HC0.out qD A4.out).mono ?_);rintro e w9 ⟨rfl,hb⟩;refine ⟨_,rfl,?_⟩;replace HB:=zA (zH qb hb);clear hb));go_ret;exact ⟨qe,qb⟩
section
open Go.Proofs.YtgdijfhdpgdanaaGreatDoor.Hand
def nameAt (l:List UInt8) (i:Nat):Bool:=if ((l.getD i 0).toNat < 97 ∨ 122 < (l.getD i 0).toNat)∧((l.getD i 0).toNat < 48 ∨ 57 < (l.getD i 0).toNat ∨ i = 0) then false else true
def nameB (s:ByteArray):Bool:=if s.size = 0 ∨ 8 < s.size ∨ s.toList = [121,101,115] ∨ s.toList = [110,111] then false else (List.range s.size).all (nameAt s.data.toList)
def zBX.f (a0:ByteArray):Option Bool:=some (nameB a0)
theorem bytesWorld_below (w:World) (e:TypeId) (s:ByteArray):Below w.heap.size w (Lib.bytesWorld w e s) :=
 ⟨rfl,rfl,rfl,by rw [Lib.bytesWorld_size];omega,fun k hk=>Lib.bytesWorld_at_old w e s k hk⟩
set_option maxHeartbeats 1000000 in
set_option maxRecDepth 100000 in
theorem zBX.calls (a0:ByteArray) (r:Bool) (w:World) (h:zBX.f a0 = some r) :
  Calls Tryz.prog 132 #[.string a0] w fun e w'=>e = .returned (.bool r)∧Below w.heap.size w w':=by
 have h:=Option.some.inj h;unfold nameB at h;have hsz:a0.toList.length = a0.size:=by rw [ByteArray.toList_eq];simp
 by_cases g1:a0.size = 0
 ·have q1:a0.toList.isEmpty = true:=by rw [List.isEmpty_iff_length_eq_zero,hsz];exact g1
  rw [if_pos (.inl g1)] at h;subst h;clear hsz g1;go_enter Tryz.func132,Tryz.ntmps132;go_wp2;go_ret;exact ⟨rfl,Below.refl _ _⟩
 have q1:a0.toList.isEmpty = false:=by rw [Bool.eq_false_iff];intro hc;rw [List.isEmpty_iff_length_eq_zero,hsz] at hc;exact g1 hc
 clear hsz;by_cases g2:8 < a0.size
 ·have q2:decide ((a0.size:Int) > 8) = true:=zQ (by omega);rw [if_pos (.inr (.inl g2))] at h;subst h;clear g1;go_enter Tryz.func132,Tryz.ntmps132;go_wp2;go_ret;exact ⟨rfl,Below.refl _ _⟩
 have q2:decide ((a0.size:Int) > 8) = false:=zR (by omega);by_cases g3:a0.toList = [121,101,115]
 ·have q3:(a0.toList == ([121,101,115]:List UInt8)) = true:=beq_iff_eq.mpr g3;rw [if_pos (.inr (.inr (.inl g3)))] at h;subst h;clear g1 g3;go_enter Tryz.func132,Tryz.ntmps132;go_wp2;go_ret;exact ⟨rfl,Below.refl _ _⟩
 have q3:(a0.toList == ([121,101,115]:List UInt8)) = false:=beq_eq_false_iff_ne.mpr g3;by_cases g4:a0.toList = [110,111]
 ·have q4:(a0.toList == ([110,111]:List UInt8)) = true:=beq_iff_eq.mpr g4;rw [if_pos (.inr (.inr (.inr g4)))] at h;subst h;clear g1 g3 g4;go_enter Tryz.func132,Tryz.ntmps132;go_wp2;go_ret;exact ⟨rfl,Below.refl _ _⟩
 have q4:(a0.toList == ([110,111]:List UInt8)) = false:=beq_eq_false_iff_ne.mpr g4;rw [if_neg (by rintro (h|h|h|h);exact g1 h;exact g2 h;exact g3 h;exact g4 h)] at h;have hcv:=Lib.run_convert_string_bytes (P:=Tryz.prog) w 9 184 5 a0 (u:=.string) Tryz.underlying9 Tryz.underlying184 Tryz.underlying5;have HB:=zA (bytesWorld_below w 5 a0);have HC:=zA (fun j (hj:j < a0.size)=>Lib.bytesWorld_cell w 5 a0 j hj);obtain ⟨wb,hwb⟩:∃ wb,wb = Lib.bytesWorld w 5 a0:=⟨_,rfl⟩;rw [← hwb] at hcv HB HC;obtain ⟨gb,hgb⟩:∃ gb,gb = w.heap.size:=⟨_,rfl⟩;rw [← hgb] at hcv HC;obtain ⟨cp,hcp⟩:∃ cp,cp = grownCap w a0.size 0 5:=⟨_,rfl⟩;rw [← hcp] at hcv;have HN:=zA g2;have HH:=zA h;clear g1 g2 g3 g4 hwb hgb hcp h;go_enter Tryz.func132,Tryz.ntmps132;go_wp2;clear q1 q2 q3 q4;go_loop [23] (fun t23=>∃ j:Nat,t23 = .int .i64 (j:Int)∧Aside0 (j ≤ a0.size∧∀ i,i < j → nameAt a0.data.toList i = true)) (fun t23=>a0.size - (intOf t23).toNat)
 case atStart=>exact ⟨0,rfl,⟨Nat.zero_le _,fun i hi=>absurd hi (Nat.not_lt_zero _)⟩⟩
 case round =>
  obtain ⟨j,rfl,HJ⟩:=hrel;by_cases hlt:j < a0.size
  ·have hq:decide ((j:Int) < (a0.size:Int)) = true:=zQ (by omega);have hq2:(0 ≤ (j:Int)) = True:=qT (by omega);have y:=HC.out j hlt;have hcdef:∃ c:Nat,c = (a0.data.toList.getD j 0).toNat:=⟨_,rfl⟩;obtain ⟨c,hcd⟩:=hcdef;have e1:IntKind.i64.wrap ((j:Int) + 1) = (j:Int) + 1:=by rw [IntKind.wrap_i64];have:=HN.out;omega
   have bad:((c < 97 ∨ 122 < c)∧(c < 48 ∨ 57 < c ∨ j = 0)) → r = false:=fun hb=>by
    have hr:=HH.out;rw [← hr,Bool.eq_false_iff];intro hall;have:=List.all_eq_true.1 hall j (List.mem_range.2 hlt);unfold nameAt at this;rw [← hcd,if_pos hb] at this;cases this
   have good:¬ ((c < 97 ∨ 122 < c)∧(c < 48 ∨ 57 < c ∨ j = 0)) → ∀ i,i < j + 1 → nameAt a0.data.toList i = true:=fun hb i hi=>by
    rcases Nat.lt_or_eq_of_le (Nat.le_of_lt_succ hi) with h|h
    ·exact HJ.out.2 i h
    ·subst h;unfold nameAt;rw [← hcd,if_neg hb]
   rw [← hcd] at y;clear hcd;by_cases p1:c < 97
   ·have u1:decide ((c:Int) < 97) = true:=zQ (by omega);by_cases p3:c < 48
    ·have u3:decide ((c:Int) < 48) = true:=zQ (by omega);have hr:=bad ⟨.inl p1,.inl p3⟩;subst hr;clear bad good;go_wp2;go_ret;exact ⟨rfl,HB.out⟩
    have u3:decide ((c:Int) < 48) = false:=zR (by omega);by_cases p4:57 < c
    ·have u4:decide ((c:Int) > 57) = true:=zQ (by omega);have hr:=bad ⟨.inl p1,.inr (.inl p4)⟩;subst hr;clear bad good;go_wp2;go_ret;exact ⟨rfl,HB.out⟩
    have u4:decide ((c:Int) > 57) = false:=zR (by omega);by_cases p5:j = 0
    ·have hr:=bad ⟨.inl p1,.inr (.inr p5)⟩;subst hr;clear bad good;subst p5;go_wp2;go_ret;exact ⟨rfl,HB.out⟩
    have u5:((j:Int) == 0) = false:=by rw [beq_eq_false_iff_ne];omega
    have hg:=zA (good (by omega));clear bad good;go_wp2;go_round
    case rel=>exact ⟨j + 1,by go_num,⟨by omega,hg.out⟩⟩
    case measure=>simp [intOf];omega
   have u1:decide ((c:Int) < 97) = false:=zR (by omega);by_cases p2:122 < c
   ·have u2:decide ((c:Int) > 122) = true:=zQ (by omega);have u3:decide ((c:Int) < 48) = false:=zR (by omega);have u4:decide ((c:Int) > 57) = true:=zQ (by omega);have hr:=bad ⟨.inr p2,.inr (.inl (by omega))⟩;subst hr;clear bad good;go_wp2;go_ret;exact ⟨rfl,HB.out⟩
   have u2:decide ((c:Int) > 122) = false:=zR (by omega);have hg:=zA (good (by omega));clear bad good;go_wp2;go_round
   case rel=>exact ⟨j + 1,by go_num,⟨by omega,hg.out⟩⟩
   case measure=>simp [intOf];omega
  ·have hq:decide ((j:Int) < (a0.size:Int)) = false:=zR (by omega);have hr:=HH.out;rw [List.all_eq_true.2 (fun i hi=>HJ.out.2 i (by have:=List.mem_range.1 hi;have:=HJ.out.1;omega))] at hr;subst hr;go_wp2;go_ret;exact ⟨rfl,HB.out⟩
end
end Go.Proofs.YtgdijfhdpgdanaaGreatDoor.B
