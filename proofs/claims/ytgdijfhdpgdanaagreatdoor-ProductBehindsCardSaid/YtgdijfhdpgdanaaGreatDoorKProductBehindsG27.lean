import Derived.Lib.SlicesCompact
import Derived.Sort.OwnSortedInts
import Derived.Test.YtgdijfhdpgdanaaGreatDoorKProductBehindsG9
import Derived.Test.YtgdijfhdpgdanaaGreatDoorKProductBehindsG26
namespace Go.Proofs.YtgdijfhdpgdanaaGreatDoor.B
open Go.Proofs.YtgdijfhdpgdanaaGreatDoor.Al
open Go.Proofs.YtgdijfhdpgdanaaGreatDoorW.PrintWords Go.Proofs.YtgdijfhdpgdanaaGreatDoor.Sq Go.RowKit Go.Proofs.YtgdijfhdpgdanaaGreatDoorW.PrintLast Go.Proofs.YtgdijfhdpgdanaaGreatDoorW.PrintMore
attribute [local go_sem] max2_int min2_int max_two min_two max_three min_three max_four min_four
set_option linter.unusedVariables false
set_option linter.unusedSimpArgs false
section
open Go.Proofs.YtgdijfhdpgdanaaGreatDoor.Hand
open Go.Sort
def zBF.f (l0:List Int):Option (List Int):=if l0.length < 4611686018427387904 then some (Lib.compact l0) else none
theorem compact_len (l:List Int):(Lib.compact l).length ≤ l.length:=by
 unfold Lib.compact Lib.compactUpTo;rw [List.length_map];refine Nat.le_trans (List.length_filter_le _ _) ?_;rw [List.length_range];exact Nat.le_refl _
theorem zBF.calls (P0_:Nat → Prop) (u9000_:Value) (l0:List Int) (r:List Int) (w0 w:World) (hB:Below w0.heap.size w0 w) (ho0:Kd.R (Kd.int .i64) 3 w w0.heap.size P0_ u9000_ l0) (h:zBF.f l0 = some r) :
  Calls Tryz.prog 87 #[u9000_] w fun e w'=>∃ v0_:Value,e = .returned (v0_)∧Kd.R (Kd.int .i64) 3 w' w0.heap.size (fun k_=>(P0_ k_ ∨ w.heap.size ≤ k_)) v0_ r∧Below w0.heap.size w0 w'∧Kept w w' (fun k_=>P0_ k_):=by
 unfold zBF.f at h;by_cases hl:l0.length < 4611686018427387904
 case neg=>rw [if_neg hl] at h;cases h
 rw [if_pos hl] at h;obtain rfl:=Option.some.inj h;have ho:=Kd.own_of_R ho0;rcases ho.2 with ⟨rfl,hz⟩|⟨g,cap,cur,rfl,hbase,hb,h1,h2,h3,h4⟩
 ·have hl0:l0 = []:=List.length_eq_zero_iff.1 hz;subst hl0;refine (Tryz.slices_Compact_int_empty none 0 w).mono ?_;rintro e w' ⟨rfl,rfl⟩;exact ⟨_,rfl,Kd.R_nil _ _ _ _ _,hB,Kept.refl _ _⟩
 ·have hH:Holds (Value.int .i64) w g 0 l0.toArray:=holds_of_blockI hb (by rw [Nat.mul_one] at h4;exact h4);have hcl:=compact_len l0;refine (Tryz.slices_Compact_int g 0 cap l0 w hH (by omega) h1).mono ?_;rintro e w' ⟨rfl,n,rfl⟩;have he:∀ d:Array Int,putRow (Value.int .i64) (Sort.ahead w n) g 0 d = grow (putRow (Value.int .i64) (Sort.ahead w n) g 0 d) #[]:=fun d=>by unfold grow;rw [Array.append_empty]
  rw [he];obtain ⟨ts,hts⟩:∃ ts,ts = Lib.compact l0 ++ List.replicate (l0.length - (Lib.compact l0).length) 0:=⟨_,rfl⟩;rw [← hts];have htl:ts.length = l0.length:=by rw [hts,List.length_append,List.length_replicate];omega
  have hg:=grownBy_sortedI (w:=w) (g:=g) (n:=n) (os:=#[]) ts.toArray;have ho2:=ownsRow_sortedI (n:=n) (os:=#[]) (ts:=ts) (ss:=l0) htl hbase hb h1 h2 h3;have ho3:(grow (putRow (Value.int .i64) (Sort.ahead w n) g 0 ts.toArray) #[]).ownsRow w0.heap.size 3 1 (.slice (some ⟨g,0,none⟩) (Lib.compact l0).length cap) (Lib.compact l0).length ((Lib.compact l0).map (Value.int .i64)):=by
   refine ⟨by rw [List.length_map,Nat.mul_one],.inr ⟨g,cap,_,rfl,hbase,heap_sortedI _ hb,by omega,h2,by simp [putCells,h3],?_⟩⟩;have:=take_putCellsI cur ts (by rw [htl,h3];omega);rw [Nat.mul_one];have e1:(putCells (Value.int .i64) 0 ts.toArray cur).toList.take (Lib.compact l0).length = ((putCells (Value.int .i64) 0 ts.toArray cur).toList.take ts.length).take (Lib.compact l0).length:=by
    rw [List.take_take,Nat.min_eq_left (by omega)]
   rw [e1,this,← List.map_take,hts,List.take_left]
  exact ⟨_,rfl,Kd.R_of_own ho3 (fun k hk=>.inl (ho0.1 k hk)),pw_below_grown hB (some g) hB.size hg (fun k hk=>by cases hk;exact hbase),Kept.of_grown hg (Kept.refl _ _) (fun k hk=>by cases hk;exact .inl (ho0.1 g rfl))⟩
end
end Go.Proofs.YtgdijfhdpgdanaaGreatDoor.B
