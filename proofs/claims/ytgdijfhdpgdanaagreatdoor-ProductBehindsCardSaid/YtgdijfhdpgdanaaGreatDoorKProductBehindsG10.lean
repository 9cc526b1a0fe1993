import Derived.Test.YtgdijfhdpgdanaaGreatDoorKProductBehindsG9
namespace Go.Proofs.YtgdijfhdpgdanaaGreatDoor.B
open Go.Proofs.YtgdijfhdpgdanaaGreatDoor.Al
open Go.Proofs.YtgdijfhdpgdanaaGreatDoorW.PrintWords Go.Proofs.YtgdijfhdpgdanaaGreatDoor.Sq Go.RowKit Go.Proofs.YtgdijfhdpgdanaaGreatDoorW.PrintLast Go.Proofs.YtgdijfhdpgdanaaGreatDoorW.PrintMore
attribute [local go_sem] max2_int min2_int max_two min_two max_three min_three max_four min_four
set_option linter.unusedVariables false
set_option linter.unusedSimpArgs false
section
open Go.Proofs.YtgdijfhdpgdanaaGreatDoor.Hand
def zBP.f (a0:Int):Option (Int × Int):=if a0 < 1 ∨ 18 < a0 then some (0,13) else some (polishTab.getD a0.toNat 0,0)
theorem zBP.calls (a0:Int) (r1:Int) (r2:Int) (w:World) (hL:LaidG w) (h:zBP.f a0 = some (r1,r2)) :
  Calls Tryz.prog 121 #[.int .i64 a0] w fun e w'=>e = .returned (.tuple #[.int .i64 r1,.int .i64 r2])∧Drawn0 w w':=by
 unfold zBP.f at h;by_cases h1:a0 < 1
 ·rw [if_pos (.inl h1)] at h;simp only [Option.some.injEq,Prod.mk.injEq] at h;obtain ⟨rfl,rfl⟩:=h;clear hL;go_enter Tryz.func121,Tryz.ntmps121;go_wp2;go_ret2;exact ⟨rfl,Drawn0.refl _⟩
 by_cases h2:18 < a0
 ·rw [if_pos (.inr h2)] at h;simp only [Option.some.injEq,Prod.mk.injEq] at h;obtain ⟨rfl,rfl⟩:=h;clear hL;go_enter Tryz.func121,Tryz.ntmps121;go_wp2;go_ret2;exact ⟨rfl,Drawn0.refl _⟩
 rw [if_neg (by omega)] at h;simp only [Option.some.injEq,Prod.mk.injEq] at h;obtain ⟨hr,rfl⟩:=h;have hc:=hL a0.toNat (by omega);rw [hr] at hc;clear hL hr;go_enter Tryz.func121,Tryz.ntmps121;go_wp2;go_ret2;exact ⟨rfl,Drawn0.refl _⟩
end
end Go.Proofs.YtgdijfhdpgdanaaGreatDoor.B
