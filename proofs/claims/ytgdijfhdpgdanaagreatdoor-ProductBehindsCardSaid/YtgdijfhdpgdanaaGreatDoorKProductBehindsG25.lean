import Derived.Sort.OwnSortedInts
import Derived.Test.YtgdijfhdpgdanaaGreatDoorKProductBehindsG9
import Derived.Test.YtgdijfhdpgdanaaGreatDoorKProductBehindsG24
namespace Go.Proofs.YtgdijfhdpgdanaaGreatDoor.B
open Go.Proofs.YtgdijfhdpgdanaaGreatDoor.Al
open Go.Proofs.YtgdijfhdpgdanaaGreatDoorW.PrintWords Go.Proofs.YtgdijfhdpgdanaaGreatDoor.Sq Go.RowKit Go.Proofs.YtgdijfhdpgdanaaGreatDoorW.PrintLast Go.Proofs.YtgdijfhdpgdanaaGreatDoorW.PrintMore
attribute [local go_sem] max2_int min2_int max_two min_two max_three min_three max_four min_four
set_option linter.unusedVariables false
set_option linter.unusedSimpArgs false
section
open Go.Proofs.YtgdijfhdpgdanaaGreatDoor.Hand
open Go.Sort
def zBI.f (l0:List Int):Option (List Int):=if l0.length < 4611686018427387904 then some (l0.mergeSort fun x y=>decide (x ≤ y)) else none
theorem zBI.calls (P0_:Nat → Prop) (u9000_:Value) (l0:List Int) (r:List Int) (w0 w:World) (hB:Below w0.heap.size w0 w) (ho0:Kd.R (Kd.int .i64) 3 w w0.heap.size P0_ u9000_ l0) (h:zBI.f l0 = some r) :
  Calls Tryz.prog 86 #[u9000_] w fun e w'=>e = .returned (.tuple #[])∧Kd.R (Kd.int .i64) 3 w' w0.heap.size (fun k_=>(P0_ k_ ∨ w.heap.size ≤ k_)) u9000_ r∧Below w0.heap.size w0 w'∧Kept w w' (fun k_=>P0_ k_):=by
 unfold zBI.f at h;by_cases hl:l0.length < 4611686018427387904
 case neg=>rw [if_neg hl] at h;cases h
 rw [if_pos hl] at h;obtain rfl:=Option.some.inj h;have ho:=Kd.own_of_R ho0;have hlow:∀ k,u9000_.ownBlock = some k → w0.heap.size ≤ k:=fun k hk=>by
  obtain ⟨_,ho⟩:=ho;rcases ho with ⟨rfl,_⟩|⟨g,c,cells,rfl,hb,_⟩
  ·cases hk
  ·cases hk;exact hb
 rcases ho.2 with ⟨rfl,hz⟩|⟨g,cap,cur,rfl,hbase,hb,h1,h2,h3,h4⟩
 ·have hl0:l0 = []:=List.length_eq_zero_iff.1 hz;subst hl0;refine (Tryz.slices_Sort_int_none none 0 w).mono ?_;rintro e w' ⟨rfl,rfl⟩;exact ⟨rfl,by rw [List.mergeSort_nil];exact Kd.R_nil _ _ _ _ _,hB,Kept.refl _ _⟩
 ·have hgl:g < w.heap.size:=(Array.getElem?_eq_some_iff.1 hb).1;have hH:Holds (Value.int .i64) w g 0 l0.toArray:=holds_of_blockI hb (by rw [Nat.mul_one] at h4;exact h4);refine (Tryz.slices_Sort_int g 0 cap l0 w hH hgl hl).mono ?_;rintro e w' ⟨rfl,n,os,rfl⟩;have hg:=grownBy_sortedI (w:=w) (g:=g) (n:=n) (os:=os) (l0.mergeSort fun x y=>decide (x ≤ y)).toArray;have ho2:=ownsRow_sortedI (n:=n) (os:=os) (ts:=l0.mergeSort fun x y=>decide (x ≤ y)) (ss:=l0) (by simp) hbase hb h1 h2 h3;refine ⟨rfl,Kd.R_of_own (by rw [List.length_mergeSort];exact ho2) (fun k hk=>.inl (ho0.1 k hk)),pw_below_grown hB (some g) hB.size hg (fun k hk=>by cases hk;exact hbase),Kept.of_grown hg (Kept.refl _ _) (fun k hk=>by cases hk;exact .inl (ho0.1 g rfl))⟩
end
end Go.Proofs.YtgdijfhdpgdanaaGreatDoor.B
