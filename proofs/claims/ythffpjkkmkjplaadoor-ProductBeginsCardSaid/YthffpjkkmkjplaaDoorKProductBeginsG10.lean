import Derived.Test.YthffpjkkmkjplaaDoorKProductBeginsG9
namespace Go.Proofs.YthffpjkkmkjplaaDoor.S
open Go.Proofs.YthffpjkkmkjplaaDoor.Al
open Go.Proofs.YthffpjkkmkjplaaDoorW.PrintWords
open Go.Proofs.YthffpjkkmkjplaaDoor.Sq
open Go.RowKit Go.Proofs.YthffpjkkmkjplaaDoorW.PrintWords Go.Proofs.YthffpjkkmkjplaaDoorW.PrintLast Go.Proofs.YthffpjkkmkjplaaDoorW.PrintMore
attribute [local go_sem] max2_int min2_int max_two min_two max_three min_three max_four min_four
set_option linter.unusedVariables false
set_option linter.unusedSimpArgs false
section
open Go.Proofs.YthffpjkkmkjplaaDoor.Hand
def polish_Parts.f (a0:Int):Option (Int × Int):=if a0 < 1 ∨ 18 < a0 then some (0,13) else some (polishTab.getD a0.toNat 0,0)
theorem polish_Parts.calls (a0:Int) (r1:Int) (r2:Int) (w:World) (hL:LaidG w) (h:polish_Parts.f a0 = some (r1,r2)) :
  Calls Tryd.prog 67 #[.int .i64 a0] w fun e w'=>e = .returned (.tuple #[.int .i64 r1,.int .i64 r2])∧Drawn0 w w':=by
 unfold polish_Parts.f at h
 by_cases h1:a0 < 1
 ·rw [if_pos (.inl h1)] at h
  simp only [Option.some.injEq,Prod.mk.injEq] at h
  obtain ⟨rfl,rfl⟩:=h
  clear hL
  go_enter Tryd.func67,Tryd.ntmps67
  go_wp2
  go_ret2
  exact ⟨rfl,Drawn0.refl _⟩
 by_cases h2:18 < a0
 ·rw [if_pos (.inr h2)] at h
  simp only [Option.some.injEq,Prod.mk.injEq] at h
  obtain ⟨rfl,rfl⟩:=h
  clear hL
  go_enter Tryd.func67,Tryd.ntmps67
  go_wp2
  go_ret2
  exact ⟨rfl,Drawn0.refl _⟩
 rw [if_neg (by omega)] at h
 simp only [Option.some.injEq,Prod.mk.injEq] at h
 obtain ⟨hr,rfl⟩:=h
 have hc:=hL a0.toNat (by omega)
 rw [hr] at hc
 clear hL hr
 go_enter Tryd.func67,Tryd.ntmps67
 go_wp2
 go_ret2
 exact ⟨rfl,Drawn0.refl _⟩
end
end Go.Proofs.YthffpjkkmkjplaaDoor.S
